/- What the functions hand back: level 7. -/
import Derived.Test.YtlkphfpkohabeaaD7
namespace Go.Sm.Ytlkphfpkohabeaa
open Go Go.Sm Go.RowKit Go.Proofs

/-! impl.LampRests -/
def a50 : Ann := ann [(5, [0, 1, 2, 9, 10, 21, 22, 23], [1, 9, 10])] [6, 7, 8] 0
def lp50 : St → (Ex → St → R) → R := fun s k => match s with
  | ⟨[(0, .fv (.vw (some 0) ⟨.f32, cs⟩)), (1, .fv (.vw (some 1) ⟨.f32, ps⟩)), (2, .fv (.vw (some 2) ⟨.f32, ys⟩)), (9, .fv (.own 0)), (10, .fv (.el (.sc (.fl .f32 a)))), (21, .fv (.vw (some 1) ⟨.f32, xs⟩)), (22, .fv (.el (.sc (.int .i64 n)))), (23, .fv (.el (.sc (.int .i64 i))))], [some ⟨30, ⟨.f32, zs⟩⟩]⟩ => (match ((decide (n = (xs.length : Int)) && (decide (i = 0) && (Nat.ble xs.length big && (Nat.ble xs.length ys.length && (Nat.beq (zs : List Nat).length 0 && Nat.ble ((zs : List Nat).length + xs.length) big))))) : Bool) with
    | true => (match repE (fun j s => bif lampP cs xs j then some (s.1 ++ [lampR cs xs ys j], sqAdd s.2 (lampR cs xs ys j)) else none) (xs.length) 0 (((zs : List Nat), a) : (List Nat) × Nat) with
      | some s => k (.exit 0) ⟨[(1, .fv (.vw (some 1) ⟨.f32, ps⟩)), (9, .fv (.own 0)), (10, .fv (.el (.sc (.fl .f32 s.2))))], [some ⟨30, ⟨.f32, s.1⟩⟩]⟩
      | none => k .ret ⟨[(6, .fv (.nil)), (7, .fv (.el (.sc (.fl .f32 0)))), (8, .fv (.el (.sc (.bo false))))], []⟩)
    | false => none)
  | _ => none
def l50 : Loops := fun key s k => bif Nat.beq key 5 then lp50 s k else none
theorem st50 (cs : List Nat) (ps : List Nat) (ys : List Nat) (a : Nat) (xs : List Nat) (n : Int) (i : Int) (zs : List Nat) (m : Nat) (k : Ex → St → R) : iterK a50 [0, 1, 2, 9, 10, 21, 22, 23] [1, 9, 10] (codeK T7 a50 l50 Try.f50.ntmps (loopAt Try.f50 0)) (m + 1) ⟨[(0, .fv (.vw (some 0) ⟨.f32, cs⟩)), (1, .fv (.vw (some 1) ⟨.f32, ps⟩)), (2, .fv (.vw (some 2) ⟨.f32, ys⟩)), (9, .fv (.own 0)), (10, .fv (.el (.sc (.fl .f32 a)))), (21, .fv (.vw (some 1) ⟨.f32, xs⟩)), (22, .fv (.el (.sc (.int .i64 n)))), (23, .fv (.el (.sc (.int .i64 i))))], [some ⟨30, ⟨.f32, zs⟩⟩]⟩ k = (match (decide ((i : Int) < n) : Bool) with
  | true => (match (decide (0 ≤ (i : Int) ∧ (i : Int) < (xs.length : Int)) && true : Bool) with
    | true => (match (xs : List Nat)[Int.toNat i]? with
      | some x1 => (match (!(((cs.all fin && (decide (cs.length ≥ 1) && decide (cs.length ≤ 3))) && fin x1) && fin (horner x1 0 cs)) : Bool) with
        | true => k .ret ⟨[(6, .fv (.nil)), (7, .fv (.el (.sc (.fl .f32 0)))), (8, .fv (.el (.sc (.bo false))))], []⟩
        | false => (match (decide (0 ≤ (i : Int) ∧ (i : Int) < (ys.length : Int)) && true : Bool) with
          | true => (match (ys : List Nat)[Int.toNat i]? with
            | some x2 => (match (Nat.beq 30 30 && decide ((zs : List Nat).length + ([fop .sub .f32 x2 (orZero (((cs.all fin && (decide (cs.length ≥ 1) && decide (cs.length ≤ 3))) && fin x1) && fin (horner x1 0 cs)) (horner x1 0 cs))] : List Nat).length ≤ 1099511627776) : Bool) with
              | true => (match (decide (0 ≤ (i : Int) ∧ (i : Int) < (((zs : List Nat) ++ ([fop .sub .f32 x2 (orZero (((cs.all fin && (decide (cs.length ≥ 1) && decide (cs.length ≤ 3))) && fin x1) && fin (horner x1 0 cs)) (horner x1 0 cs))])).length : Int)) && true : Bool) with
                | true => (match ((zs : List Nat) ++ ([fop .sub .f32 x2 (orZero (((cs.all fin && (decide (cs.length ≥ 1) && decide (cs.length ≤ 3))) && fin x1) && fin (horner x1 0 cs)) (horner x1 0 cs))]) : List Nat)[Int.toNat i]? with
                  | some x3 => (match (decide (0 ≤ (i : Int) ∧ (i : Int) < (((zs : List Nat) ++ ([fop .sub .f32 x2 (orZero (((cs.all fin && (decide (cs.length ≥ 1) && decide (cs.length ≤ 3))) && fin x1) && fin (horner x1 0 cs)) (horner x1 0 cs))])).length : Int)) && true : Bool) with
                    | true => (match ((zs : List Nat) ++ ([fop .sub .f32 x2 (orZero (((cs.all fin && (decide (cs.length ≥ 1) && decide (cs.length ≤ 3))) && fin x1) && fin (horner x1 0 cs)) (horner x1 0 cs))]) : List Nat)[Int.toNat i]? with
                      | some x4 => iterK a50 [0, 1, 2, 9, 10, 21, 22, 23] [1, 9, 10] (codeK T7 a50 l50 Try.f50.ntmps (loopAt Try.f50 0)) m ⟨[(0, .fv (.vw (some 0) ⟨.f32, cs⟩)), (1, .fv (.vw (some 1) ⟨.f32, ps⟩)), (2, .fv (.vw (some 2) ⟨.f32, ys⟩)), (9, .fv (.own 0)), (10, .fv (.el (.sc (.fl .f32 (fop .add .f32 a (fop .mul .f32 x3 x4)))))), (21, .fv (.vw (some 1) ⟨.f32, xs⟩)), (22, .fv (.el (.sc (.int .i64 n)))), (23, .fv (.el (.sc (.int .i64 (IntKind.i64.wrap (i + 1))))))], [some ⟨30, ⟨.f32, (zs : List Nat) ++ ([fop .sub .f32 x2 (orZero (((cs.all fin && (decide (cs.length ≥ 1) && decide (cs.length ≤ 3))) && fin x1) && fin (horner x1 0 cs)) (horner x1 0 cs))])⟩⟩]⟩ k
                      | none => none)
                    | false => none)
                  | none => none)
                | false => none)
              | false => none)
            | none => none)
          | false => none))
      | none => none)
    | false => none)
  | false => k (.exit 0) ⟨[(1, .fv (.vw (some 1) ⟨.f32, ps⟩)), (9, .fv (.own 0)), (10, .fv (.el (.sc (.fl .f32 a))))], [some ⟨30, ⟨.f32, zs⟩⟩]⟩) := by kernel_rfl
theorem ind50 (cs : List Nat) (ps : List Nat) (ys : List Nat) (xs : List Nat) (hx : (Nat.ble xs.length big) = true) (hl : (Nat.ble xs.length ys.length) = true) (k : Ex → St → R) : ∀ (m j : Nat) (zs : List Nat) (a : Nat), zs.length = j → zs.length + m ≤ 1099511627776 → 0 ≤ j → j + m = xs.length → iterK a50 [0, 1, 2, 9, 10, 21, 22, 23] [1, 9, 10] (codeK T7 a50 l50 Try.f50.ntmps (loopAt Try.f50 0)) (m + 1) ⟨[(0, .fv (.vw (some 0) ⟨.f32, cs⟩)), (1, .fv (.vw (some 1) ⟨.f32, ps⟩)), (2, .fv (.vw (some 2) ⟨.f32, ys⟩)), (9, .fv (.own 0)), (10, .fv (.el (.sc (.fl .f32 a)))), (21, .fv (.vw (some 1) ⟨.f32, xs⟩)), (22, .fv (.el (.sc (.int .i64 (xs.length : Int))))), (23, .fv (.el (.sc (.int .i64 (j : Int)))))], [some ⟨30, ⟨.f32, zs⟩⟩]⟩ k =
    (match repE (fun j s => bif lampP cs xs j then some (s.1 ++ [lampR cs xs ys j], sqAdd s.2 (lampR cs xs ys j)) else none) m j ((zs, a) : (List Nat) × Nat) with
    | some s => k (.exit 0) ⟨[(1, .fv (.vw (some 1) ⟨.f32, ps⟩)), (9, .fv (.own 0)), (10, .fv (.el (.sc (.fl .f32 s.2))))], [some ⟨30, ⟨.f32, s.1⟩⟩]⟩
    | none => k .ret ⟨[(6, .fv (.nil)), (7, .fv (.el (.sc (.fl .f32 0)))), (8, .fv (.el (.sc (.bo false))))], []⟩) := by
  intro m
  induction m with
  | zero =>
    intro j zs a hs0 hs1 hlo hj
    have hx_ := big_le hx
    have hl_ := Nat.le_of_ble_eq_true hl
    have h1 : ¬ (((j : Int) < (xs.length : Int))) := by omega
    rw [st50]
    simp only [h1, repE, decide_false, List.length_singleton] <;> rfl
  | succ m ih =>
    intro j zs a hs0 hs1 hlo hj
    have hx_ := big_le hx
    have hl_ := Nat.le_of_ble_eq_true hl
    have h1 : ((j : Int) < (xs.length : Int)) := by omega
    have hbq : Nat.beq 30 30 = true := rfl
    have hzl : zs.length + 1 ≤ 1099511627776 := by omega
    have xb : (0 : Int) ≤ ((j : Nat) : Int) ∧ ((j : Nat) : Int) < (xs.length : Int) := by omega
    have xq : xs[Int.toNat ((j : Nat) : Int)]? = some (xs.getD (j) 0) := getI (by omega)
    have xp : xs[j]? = some (xs.getD (j) 0) := getI2 (by omega)
    have yl : j < ys.length := by omega
    have yb : (0 : Int) ≤ ((j : Nat) : Int) ∧ ((j : Nat) : Int) < (ys.length : Int) := by omega
    have yq : ys[Int.toNat ((j : Nat) : Int)]? = some (ys.getD (j) 0) := getI (by omega)
    have yp : ys[j]? = some (ys.getD (j) 0) := getI2 (by omega)
    have hrr : ∀ r : Nat, (zs ++ [r])[Int.toNat (j : Int)]? = some r := by intro r; rw [Int.toNat_natCast, List.getElem?_append_right (by omega), hs0]; simp
    have hrb : ∀ r : Nat, (0 : Int) ≤ (j : Int) ∧ (j : Int) < ((zs ++ [r]).length : Int) := by intro r; simp; omega
    have wn : IntKind.i64.wrap ((j : Int) + 1) = ((j + 1 : Nat) : Int) := wrapN (by omega) (by omega)
    rw [st50]
    simp only [h1, wn, hbq, hzl, xb, xq, xp, yl, yb, yq, yp, hrr, hrb, and_self, decide_true, Bool.and_true, Int.le_refl, List.length_singleton]
    rw [repE_succ]
    have ep : (((cs.all fin && (decide (cs.length ≥ 1) && decide (cs.length ≤ 3))) && fin (xs.getD j 0)) && fin (horner (xs.getD j 0) 0 cs)) = lampP cs xs j := by
      unfold lampP lampV curveOk
      rw [Bool.and_assoc]
    try rw [ep]
    have r1 := ih (j + 1) (zs ++ [lampR cs xs ys j]) (sqAdd a (lampR cs xs ys j)) (by simp; omega) (by simp; omega) (by omega) (by omega)
    cases hf : lampP cs xs j with
    | true =>
      simp only [ep, hf, orZero, hrr, hrb, List.length_singleton, hzl, and_self, decide_true, Bool.and_true, cond_true]
      exact r1
    | false =>
      try simp only [ep, hf]
      rfl

theorem lk50 : LOK T7 a50 l50 Try.f50.ntmps (loopAt Try.f50 0) := by
  intro ins outs hA s k out h
  have hA' : ([0, 1, 2, 9, 10, 21, 22, 23], [1, 9, 10]) = (ins, outs) := Option.some.inj ((show a50.lp (firstRegion (loopAt Try.f50 0)) = some ([0, 1, 2, 9, 10, 21, 22, 23], [1, 9, 10]) by kernel_rfl).symm.trans hA)
  cases hA'
  have hk : firstRegion (loopAt Try.f50 0) = 5 := by kernel_rfl
  rw [hk] at h
  change lp50 s k = some out at h
  unfold lp50 at h
  split at h
  · rename_i cs ps ys a xs n i zs
    cases hg : (decide (n = (xs.length : Int)) && (decide (i = 0) && (Nat.ble xs.length big && (Nat.ble xs.length ys.length && (Nat.beq zs.length 0 && Nat.ble (zs.length + xs.length) big))))) with
    | false => rw [hg] at h; cases h
    | true =>
      rw [hg] at h
      simp only [Bool.and_eq_true, decide_eq_true_eq] at hg
      obtain ⟨rfl, rfl, hx, hl, gs0, gs1⟩ := hg
      refine ⟨(xs.length) + 1, ?_⟩
      have hx_ := big_le hx
      have hl_ := Nat.le_of_ble_eq_true hl
      have gs1_ := big_le gs1
      have gs0_ := Nat.eq_of_beq_eq_true gs0
      exact (ind50 cs ps ys xs hx hl k (xs.length) 0 zs a (by omega) (by omega) (by omega) (by omega)).trans h
  · cases h
theorem e50 (cs : List Nat) (xs : List Nat) (ys : List Nat) : runFn T7 a50 l50 Try.f50 [.vw none ⟨.f32, cs⟩, .vw none ⟨.f32, xs⟩, .vw none ⟨.f32, ys⟩] = (match (!(lamps xs ys 1) : Bool) with
  | true => some ⟨[.nil, .el (.sc (.fl .f32 0)), .el (.sc (.bo false))], none⟩
  | false => (match ((decide (((xs.length : Int)) = (xs.length : Int)) && (decide (0 = 0) && (Nat.ble xs.length big && (Nat.ble xs.length ys.length && (Nat.beq ([] : List Nat).length 0 && Nat.ble (([] : List Nat).length + xs.length) big))))) : Bool) with
    | true => (match repE (fun j s => bif lampP cs xs j then some (s.1 ++ [lampR cs xs ys j], sqAdd s.2 (lampR cs xs ys j)) else none) (xs.length) 0 ((([] : List Nat), 0) : (List Nat) × Nat) with
      | some s => (match (Nat.ble s.1.length big : Bool) with
        | true => (match (!(s.1.all fin) : Bool) with
          | true => some ⟨[.nil, .el (.sc (.fl .f32 0)), .el (.sc (.bo false))], none⟩
          | false => (match (!(fin (rootF (fop .quo .f32 s.2 (fint .f32 ((xs.length : Int)))))) : Bool) with
            | true => some ⟨[.nil, .el (.sc (.fl .f32 0)), .el (.sc (.bo false))], none⟩
            | false => some ⟨[.fresh 30 ⟨.f32, s.1⟩, .el (.sc (.fl .f32 (rootF (fop .quo .f32 s.2 (fint .f32 ((xs.length : Int))))))), .el (.sc (.bo true))], none⟩))
        | false => none)
      | none => some ⟨[.nil, .el (.sc (.fl .f32 0)), .el (.sc (.bo false))], none⟩)
    | false => none)) := by kernel_rfl
theorem s50 (cs : List Nat) (xs : List Nat) (ys : List Nat) : runFn T7 a50 l50 Try.f50 [.vw none ⟨.f32, cs⟩, .vw none ⟨.f32, xs⟩, .vw none ⟨.f32, ys⟩] = (match (lampROk cs xs ys : Bool) with
  | true => some ⟨[.fresh 30 ⟨.f32, lampRests cs xs ys⟩, .el (.sc (.fl .f32 (lampRoot cs xs ys))), .el (.sc (.bo true))], none⟩
  | false => some ⟨[.nil, .el (.sc (.fl .f32 0)), .el (.sc (.bo false))], none⟩) := by
  rw [e50]
  unfold lampROk
  have hcur : (cs.all fin && (decide (cs.length ≥ 1) && decide (cs.length ≤ 3))) = curveOk cs := rfl
  try rw [hcur]
  cases h2 : lamps xs ys 1 with
  | false => simp [orZero, orNil]
  | true =>
    have h2b := h2
    unfold lamps at h2b
    simp only [Bool.and_eq_true, decide_eq_true_eq] at h2b
    have hx : Nat.ble xs.length big = true := big_of (by omega)
    have hxy : Nat.ble xs.length ys.length = true := Nat.ble_eq_true_of_le (by omega)
    have hz : Nat.ble (0 + xs.length) big = true := big_of (by omega)
    have hr : Nat.ble (lampRests cs xs ys).length big = true := big_of (by rw [lampRests_len]; omega)
    have hll : (lampRests cs xs ys).length = xs.length := lampRests_len cs xs ys
    have hself : Nat.ble (lampRests cs xs ys).length (lampRests cs xs ys).length = true := Nat.ble_eq_true_of_le (Nat.le_refl _)
    have hlr : rootF (fop .quo .f32 (dot2 (lampRests cs xs ys) (lampRests cs xs ys)) (fint .f32 (xs.length : Int))) = lampRoot cs xs ys := rfl
    cases h1 : curveOk cs with
    | false => 
      have e := lamp_run cs xs ys
      rw [lamp_none h1 (by omega)] at e
      simp only [hx, hxy, hz, e, Nat.beq_refl, List.length_nil, decide_true, Bool.and_self, Bool.not_true, Bool.true_and, Bool.and_true]
      simp
    | true =>
      have e := lamp_run cs xs ys
      have hxf : xs.all fin = true := h2b.2.2.2.1
      simp only [hx, hxy, hz, e, Nat.beq_refl, List.length_nil, decide_true, Bool.and_self, Bool.not_true, Bool.true_and, Bool.and_true]
      cases h5 : (fromTo 0 xs.length).all (lampP cs xs) with
      | false =>
        rw [lamp_bad h1 hxf h5]
        simp
      | true =>
        simp only [hr, hlr, cond_true]
        cases h6 : (lampRests cs xs ys).all fin <;> cases h7 : fin (lampRoot cs xs ys) <;> simp [h6, h7]
theorem c50 (cs : List Nat) (xs : List Nat) (ys : List Nat) (k : List RV → R) (out : Out) (h : k [.fresh 30 ⟨.f32, orNil (lampROk cs xs ys) (lampRests cs xs ys)⟩, .el (.sc (.fl .f32 (orZero (lampROk cs xs ys) (lampRoot cs xs ys)))), .el (.sc (.bo (lampROk cs xs ys)))] = some out) : ∃ rs, Real Try.prog 50 ∧ COK Try.prog 50 [.vw none ⟨.f32, cs⟩, .vw none ⟨.f32, xs⟩, .vw none ⟨.f32, ys⟩] rs ∧ k rs = some out := by
  cases g0 : (lampROk cs xs ys : Bool) with
  | true =>
    rw [g0] at h
    exact ⟨_, real Try.func50 (by kernel_rfl), fn_ok tok7 (A := a50) (L := l50) (r := none) Try.func50 (by kernel_rfl) (by kernel_rfl) (loops1 (by kernel_rfl) lk50) (by rw [s50, g0]; rfl), h⟩
  | false =>
    rw [g0] at h
    exact ⟨_, real Try.func50 (by kernel_rfl), COK.nil (fn_ok tok7 (A := a50) (L := l50) (r := none) Try.func50 (by kernel_rfl) (by kernel_rfl) (loops1 (by kernel_rfl) lk50) (by rw [s50, g0] <;> rfl)), h⟩

/-! slices.IndexFunc[[]impl.Line,impl.Line] -/
def a135 : Ann := ann [(2, [0, 1, 7, 8], [])] [4] 0
def lp135 : St → (Ex → St → R) → R := fun s k => match s with
  | ⟨[(0, .fv (.vw (some 0) ⟨.line, xs⟩)), (1, .fv (.fn 112 [])), (7, .fv (.el (.sc (.int .i64 n)))), (8, .fv (.el (.sc (.int .i64 i))))], []⟩ => (match (decide (n = (xs.length : Int)) && (decide (i = 0) && Nat.ble xs.length big) : Bool) with
    | true => (match xs.findIdx? notLine with
      | some q => k .ret ⟨[(4, .fv (.el (.sc (.int .i64 ((q : Int))))))], []⟩
      | none => k (.exit 0) ⟨[], []⟩)
    | false => none)
  | _ => none
def l135 : Loops := fun key s k => bif Nat.beq key 2 then lp135 s k else none
theorem st135 (xs : List LineV) (n : Int) (i : Int) (m : Nat) (k : Ex → St → R) : iterK a135 [0, 1, 7, 8] [] (codeK T7 a135 l135 Try.f135.ntmps (loopAt Try.f135 0)) (m + 1) ⟨[(0, .fv (.vw (some 0) ⟨.line, xs⟩)), (1, .fv (.fn 112 [])), (7, .fv (.el (.sc (.int .i64 n)))), (8, .fv (.el (.sc (.int .i64 i))))], []⟩ k = (match (decide ((i : Int) < n) : Bool) with
  | true => (match (decide (0 ≤ (i : Int) ∧ (i : Int) < (xs.length : Int)) && true : Bool) with
    | true => (match (xs : List LineV)[Int.toNat i]? with
      | some x1 => (match (notLine x1 : Bool) with
        | true => k .ret ⟨[(4, .fv (.el (.sc (.int .i64 i))))], []⟩
        | false => iterK a135 [0, 1, 7, 8] [] (codeK T7 a135 l135 Try.f135.ntmps (loopAt Try.f135 0)) m ⟨[(0, .fv (.vw (some 0) ⟨.line, xs⟩)), (1, .fv (.fn 112 [])), (7, .fv (.el (.sc (.int .i64 n)))), (8, .fv (.el (.sc (.int .i64 (IntKind.i64.wrap (i + 1))))))], []⟩ k)
      | none => none)
    | false => none)
  | false => k (.exit 0) ⟨[], []⟩) := by kernel_rfl
theorem ind135 (xs : List LineV) (hx : Nat.ble xs.length big = true) (k : Ex → St → R) : ∀ (m j : Nat), j + m = xs.length → iterK a135 [0, 1, 7, 8] [] (codeK T7 a135 l135 Try.f135.ntmps (loopAt Try.f135 0)) (m + 1) ⟨[(0, .fv (.vw (some 0) ⟨.line, xs⟩)), (1, .fv (.fn 112 [])), (7, .fv (.el (.sc (.int .i64 (xs.length : Int))))), (8, .fv (.el (.sc (.int .i64 (j : Int)))))], []⟩ k =
    (match (xs.drop j).findIdx? notLine with
    | some q => k .ret ⟨[(4, .fv (.el (.sc (.int .i64 ((j + q : Nat) : Int)))))], []⟩
    | none => k (.exit 0) ⟨[], []⟩) := by
  intro m
  induction m with
  | zero =>
    intro j hj
    have h1 : ¬ ((j : Int) < (xs.length : Int)) := by omega
    rw [st135]
    have h2 : xs.drop j = [] := List.drop_of_length_le (by omega)
    simp [h1, h2]
  | succ m ih =>
    intro j hj
    have hlt : j < xs.length := by omega
    have h1 : ((j : Int) < (xs.length : Int)) := by omega
    have h2 : (0 : Int) ≤ (j : Int) := by omega
    rw [st135, wrap_succ hlt hx]
    have h3 : xs[Int.toNat (j : Int)]? = some xs[j] := by simp [hlt]
    rw [List.drop_eq_getElem_cons hlt, List.findIdx?_cons]
    simp only [h1, h2, h3, and_self, decide_true, Bool.and_true]
    cases hp : notLine xs[j] with
    | true => simp
    | false =>
      rw [ih (j + 1) (by omega)]
      cases (xs.drop (j + 1)).findIdx? notLine with
      | none => rfl
      | some q => simp only [Bool.false_eq_true, if_false, Option.map_some]; rw [show j + 1 + q = j + (q + 1) by omega]
theorem lk135 : LOK T7 a135 l135 Try.f135.ntmps (loopAt Try.f135 0) := by
  intro ins outs hA s k out h
  have hA' : ([0, 1, 7, 8], []) = (ins, outs) := Option.some.inj ((show a135.lp (firstRegion (loopAt Try.f135 0)) = some ([0, 1, 7, 8], []) by kernel_rfl).symm.trans hA)
  cases hA'
  have hk : firstRegion (loopAt Try.f135 0) = 2 := by kernel_rfl
  rw [hk] at h
  change lp135 s k = some out at h
  unfold lp135 at h
  split at h
  · rename_i xs n i
    cases hg : (decide (n = (xs.length : Int)) && (decide (i = 0) && Nat.ble xs.length big)) with
    | false => rw [hg] at h; cases h
    | true =>
      rw [hg] at h
      simp only [Bool.and_eq_true, decide_eq_true_eq] at hg
      obtain ⟨rfl, rfl, hx⟩ := hg
      refine ⟨xs.length + 1, ?_⟩
      have := ind135 xs hx k xs.length 0 (by omega)
      simp only [List.drop_zero, Nat.zero_add] at this
      exact this.trans h
  · cases h
theorem e135 (xs : List LineV) : runFn T7 a135 l135 Try.f135 [.vw none ⟨.line, xs⟩, .fn 112 []] = (match (decide ((xs.length : Int) = (xs.length : Int)) && (decide (0 = 0) && Nat.ble xs.length big) : Bool) with
  | true => (match xs.findIdx? notLine with
    | some q => some ⟨[.el (.sc (.int .i64 ((q : Int))))], none⟩
    | none => some ⟨[.el (.sc (.int .i64 ((-1))))], none⟩)
  | false => none) := by kernel_rfl
theorem s135 (xs : List LineV) : runFn T7 a135 l135 Try.f135 [.vw none ⟨.line, xs⟩, .fn 112 []] = (match (Nat.ble xs.length big : Bool) with
  | true => some ⟨[.el (.sc (.int .i64 (firstAt notLine xs)))], none⟩
  | false => none) := by
  rw [e135]
  unfold firstAt
  cases h : Nat.ble xs.length big with
  | false => simp [h]
  | true =>
    cases h2 : xs.findIdx? notLine with
    | some q => simp [h, h2]
    | none => simp [h, h2]
theorem c135 (xs : List LineV) (k : List RV → R) (out : Out) (h : (match (Nat.ble xs.length big : Bool) with
  | true => k [.el (.sc (.int .i64 (firstAt notLine xs)))]
  | false => none) = some out) : ∃ rs, Real Try.prog 135 ∧ COK Try.prog 135 [.vw none ⟨.line, xs⟩, .fn 112 []] rs ∧ k rs = some out := by
  cases g0 : (Nat.ble xs.length big : Bool) with
  | true =>
    rw [g0] at h
    exact ⟨_, real Try.func135 (by kernel_rfl), fn_ok tok7 (A := a135) (L := l135) (r := none) Try.func135 (by kernel_rfl) (by kernel_rfl) (loops1 (by kernel_rfl) lk135) (by rw [s135, g0]), h⟩
  | false =>
    rw [g0] at h
    cases h

def S8 : SFn := fun f args k => match f, args with
  | 50, [.vw none ⟨.f32, cs⟩, .vw none ⟨.f32, xs⟩, .vw none ⟨.f32, ys⟩] => k [.fresh 30 ⟨.f32, orNil (lampROk cs xs ys) (lampRests cs xs ys)⟩, .el (.sc (.fl .f32 (orZero (lampROk cs xs ys) (lampRoot cs xs ys)))), .el (.sc (.bo (lampROk cs xs ys)))]
  | 135, [.vw none ⟨.line, xs⟩, .fn 112 []] => (match (Nat.ble xs.length big : Bool) with
    | true => k [.el (.sc (.int .i64 (firstAt notLine xs)))]
    | false => none)
  | _, _ => S7 f args k
abbrev M8 : MFn := M7
def T8 : TT := tab.T S8 muts M8
theorem tok8 : TOK Try.prog T8 := by
  refine (tab_ok tabok).tok (fun f args k out h => ?_) (fun f vec args k out h => ?_)
  · change S8 f args k = some out at h
    unfold S8 at h
    split at h
    · exact (fun k out h => cok_call (c50 _ _ _ k out h)) k out h
    · exact (fun k out h => cok_call (c135 _ k out h)) k out h
    · exact tok7.S f args k out h
  · exact tok7.M f vec args k out h

end Go.Sm.Ytlkphfpkohabeaa
