/- What the functions hand back: level 6. -/
import Derived.Test.YtdeplgocckdbiaaD6
namespace Go.Sm.Ytdeplgocckdbiaa
open Go Go.Sm Go.RowKit Go.Proofs

/-! impl.TurnVector -/
def a31 : Ann := ann [(5, [0, 1, 2, 8, 55, 56, 57], [0, 1, 2, 8]), (14, [0, 2, 11, 12, 13, 77, 78, 79], [0, 2, 12, 13]), (23, [0, 12, 13, 17, 18, 19, 111, 112], [19])] [6, 7] 0
def lp31 : St → (Ex → St → R) → R := fun s k => match s with
  | ⟨[(0, .fv (.vw (some 0) ⟨.f32, vs⟩)), (1, .fv (.vw (some 1) ⟨.f32, ps⟩)), (2, .fv (.el (.sc (.fl .f32 t)))), (8, .fv (.el (.sc (.fl .f32 a)))), (55, .fv (.vw (some 1) ⟨.f32, xs⟩)), (56, .fv (.el (.sc (.int .i64 n)))), (57, .fv (.el (.sc (.int .i64 i))))], []⟩ => (match ((decide (n = (xs.length : Int)) && (decide (i = 0) && Nat.ble xs.length big)) : Bool) with
    | true => k (.exit 0) ⟨[(0, .fv (.vw (some 0) ⟨.f32, vs⟩)), (1, .fv (.vw (some 1) ⟨.f32, ps⟩)), (2, .fv (.el (.sc (.fl .f32 t)))), (8, .fv (.el (.sc (.fl .f32 (rep (fun j a => fop .add .f32 a (fop .mul .f32 (xs.getD j 0) (xs.getD j 0))) (xs.length) 0 (a : Nat))))))], []⟩
    | false => none)
  | _ => none
def lp31_1 : St → (Ex → St → R) → R := fun s k => match s with
  | ⟨[(0, .fv (.vw (some 0) ⟨.f32, vs⟩)), (2, .fv (.el (.sc (.fl .f32 t)))), (11, .fv (.el (.sc (.fl .f32 r)))), (12, .fv (.own 0)), (13, .fv (.el (.sc (.fl .f32 a)))), (77, .fv (.vw (some 1) ⟨.f32, xs⟩)), (78, .fv (.el (.sc (.int .i64 n)))), (79, .fv (.el (.sc (.int .i64 i))))], [some ⟨30, ⟨.f32, zs⟩⟩]⟩ => (match ((decide (n = (xs.length : Int)) && (decide (i = 0) && (Nat.ble xs.length big && (Nat.ble xs.length vs.length && (Nat.beq (zs : List Nat).length 0 && Nat.ble ((zs : List Nat).length + xs.length) big))))) : Bool) with
    | true => k (.exit 2) ⟨[(0, .fv (.vw (some 0) ⟨.f32, vs⟩)), (2, .fv (.el (.sc (.fl .f32 t)))), (12, .fv (.own 0)), (13, .fv (.el (.sc (.fl .f32 ((rep (fun j s => (s.1 ++ [fop .quo .f32 (xs.getD j 0) r], fop .add .f32 s.2 (fop .mul .f32 (fop .quo .f32 (xs.getD j 0) r) (vs.getD j 0)))) (xs.length) 0 (((zs : List Nat), a) : (List Nat) × Nat)).2)))))], [some ⟨30, ⟨.f32, (rep (fun j s => (s.1 ++ [fop .quo .f32 (xs.getD j 0) r], fop .add .f32 s.2 (fop .mul .f32 (fop .quo .f32 (xs.getD j 0) r) (vs.getD j 0)))) (xs.length) 0 (((zs : List Nat), a) : (List Nat) × Nat)).1⟩⟩]⟩
    | false => none)
  | _ => none
def lp31_2 : St → (Ex → St → R) → R := fun s k => match s with
  | ⟨[(0, .fv (.vw (some 0) ⟨.f32, vs⟩)), (12, .fv (.own 0)), (13, .fv (.el (.sc (.fl .f32 d)))), (17, .fv (.el (.sc (.fl .f32 re)))), (18, .fv (.el (.sc (.fl .f32 im)))), (19, .fv (.own 1)), (111, .fv (.el (.sc (.int .i64 n)))), (112, .fv (.el (.sc (.int .i64 i))))], [some ⟨30, ⟨.f32, us⟩⟩, some ⟨30, ⟨.f32, zs⟩⟩]⟩ => (match ((decide (n = (3 : Int)) && (decide (i = 0) && (Nat.ble 3 (us : List Nat).length && (Nat.ble 3 vs.length && Nat.ble ((zs : List Nat).length + 3) big)))) : Bool) with
    | true => k (.exit 4) ⟨[(19, .fv (.own 0))], [some ⟨30, ⟨.f32, rep (fun j zs => zs ++ [tvAt (us : List Nat) vs d re im j]) (3) 0 ((zs : List Nat) : (List Nat))⟩⟩]⟩
    | false => none)
  | _ => none
def l31 : Loops := fun key s k => bif Nat.beq key 5 then lp31 s k else bif Nat.beq key 14 then lp31_1 s k else bif Nat.beq key 23 then lp31_2 s k else none
theorem st31 (vs : List Nat) (ps : List Nat) (t : Nat) (a : Nat) (xs : List Nat) (n : Int) (i : Int) (m : Nat) (k : Ex → St → R) : iterK a31 [0, 1, 2, 8, 55, 56, 57] [0, 1, 2, 8] (codeK T6 a31 l31 Try.f31.ntmps (loopAt Try.f31 0)) (m + 1) ⟨[(0, .fv (.vw (some 0) ⟨.f32, vs⟩)), (1, .fv (.vw (some 1) ⟨.f32, ps⟩)), (2, .fv (.el (.sc (.fl .f32 t)))), (8, .fv (.el (.sc (.fl .f32 a)))), (55, .fv (.vw (some 1) ⟨.f32, xs⟩)), (56, .fv (.el (.sc (.int .i64 n)))), (57, .fv (.el (.sc (.int .i64 i))))], []⟩ k = (match (decide ((i : Int) < n) : Bool) with
  | true => (match (decide (0 ≤ (i : Int) ∧ (i : Int) < (xs.length : Int)) && true : Bool) with
    | true => (match (xs : List Nat)[Int.toNat i]? with
      | some x1 => iterK a31 [0, 1, 2, 8, 55, 56, 57] [0, 1, 2, 8] (codeK T6 a31 l31 Try.f31.ntmps (loopAt Try.f31 0)) m ⟨[(0, .fv (.vw (some 0) ⟨.f32, vs⟩)), (1, .fv (.vw (some 1) ⟨.f32, ps⟩)), (2, .fv (.el (.sc (.fl .f32 t)))), (8, .fv (.el (.sc (.fl .f32 (fop .add .f32 a (fop .mul .f32 x1 x1)))))), (55, .fv (.vw (some 1) ⟨.f32, xs⟩)), (56, .fv (.el (.sc (.int .i64 n)))), (57, .fv (.el (.sc (.int .i64 (IntKind.i64.wrap (i + 1))))))], []⟩ k
      | none => none)
    | false => none)
  | false => k (.exit 0) ⟨[(0, .fv (.vw (some 0) ⟨.f32, vs⟩)), (1, .fv (.vw (some 1) ⟨.f32, ps⟩)), (2, .fv (.el (.sc (.fl .f32 t)))), (8, .fv (.el (.sc (.fl .f32 a))))], []⟩) := by kernel_rfl
theorem ind31 (vs : List Nat) (ps : List Nat) (t : Nat) (xs : List Nat) (hx : (Nat.ble xs.length big) = true) (k : Ex → St → R) : ∀ (m j : Nat) (a : Nat), 0 ≤ j → j + m = xs.length → iterK a31 [0, 1, 2, 8, 55, 56, 57] [0, 1, 2, 8] (codeK T6 a31 l31 Try.f31.ntmps (loopAt Try.f31 0)) (m + 1) ⟨[(0, .fv (.vw (some 0) ⟨.f32, vs⟩)), (1, .fv (.vw (some 1) ⟨.f32, ps⟩)), (2, .fv (.el (.sc (.fl .f32 t)))), (8, .fv (.el (.sc (.fl .f32 a)))), (55, .fv (.vw (some 1) ⟨.f32, xs⟩)), (56, .fv (.el (.sc (.int .i64 (xs.length : Int))))), (57, .fv (.el (.sc (.int .i64 (j : Int)))))], []⟩ k =
    k (.exit 0) ⟨[(0, .fv (.vw (some 0) ⟨.f32, vs⟩)), (1, .fv (.vw (some 1) ⟨.f32, ps⟩)), (2, .fv (.el (.sc (.fl .f32 t)))), (8, .fv (.el (.sc (.fl .f32 (rep (fun j a => fop .add .f32 a (fop .mul .f32 (xs.getD j 0) (xs.getD j 0))) m j (a : Nat))))))], []⟩ := by
  intro m
  induction m with
  | zero =>
    intro j a hlo hj
    have hx_ := big_le hx
    have h1 : ¬ (((j : Int) < (xs.length : Int))) := by omega
    rw [st31]
    simp only [h1, rep, decide_false] <;> rfl
  | succ m ih =>
    intro j a hlo hj
    have hx_ := big_le hx
    have h1 : ((j : Int) < (xs.length : Int)) := by omega
    have xb : (0 : Int) ≤ ((j : Nat) : Int) ∧ ((j : Nat) : Int) < (xs.length : Int) := by omega
    have xq : xs[Int.toNat ((j : Nat) : Int)]? = some (xs.getD (j) 0) := getI (by omega)
    have xp : xs[j]? = some (xs.getD (j) 0) := getI2 (by omega)
    have wn : IntKind.i64.wrap ((j : Int) + 1) = ((j + 1 : Nat) : Int) := wrapN (by omega) (by omega)
    rw [st31]
    simp only [h1, wn, xb, xq, xp, and_self, decide_true, Bool.and_true, Int.le_refl]
    exact ih (j + 1) _ (by omega) (by omega)

theorem lk31 : LOK T6 a31 l31 Try.f31.ntmps (loopAt Try.f31 0) := by
  intro ins outs hA s k out h
  have hA' : ([0, 1, 2, 8, 55, 56, 57], [0, 1, 2, 8]) = (ins, outs) := Option.some.inj ((show a31.lp (firstRegion (loopAt Try.f31 0)) = some ([0, 1, 2, 8, 55, 56, 57], [0, 1, 2, 8]) by kernel_rfl).symm.trans hA)
  cases hA'
  have hk : firstRegion (loopAt Try.f31 0) = 5 := by kernel_rfl
  rw [hk] at h
  change lp31 s k = some out at h
  unfold lp31 at h
  split at h
  · rename_i vs ps t a xs n i
    cases hg : (decide (n = (xs.length : Int)) && (decide (i = 0) && Nat.ble xs.length big)) with
    | false => rw [hg] at h; cases h
    | true =>
      rw [hg] at h
      simp only [Bool.and_eq_true, decide_eq_true_eq] at hg
      obtain ⟨rfl, rfl, hx⟩ := hg
      refine ⟨(xs.length) + 1, ?_⟩
      have hx_ := big_le hx
      exact (ind31 vs ps t xs hx k (xs.length) 0 a (by omega) (by omega)).trans h
  · cases h
theorem st31_1 (vs : List Nat) (t : Nat) (r : Nat) (a : Nat) (xs : List Nat) (n : Int) (i : Int) (zs : List Nat) (m : Nat) (k : Ex → St → R) : iterK a31 [0, 2, 11, 12, 13, 77, 78, 79] [0, 2, 12, 13] (codeK T6 a31 l31 Try.f31.ntmps (loopAt Try.f31 1)) (m + 1) ⟨[(0, .fv (.vw (some 0) ⟨.f32, vs⟩)), (2, .fv (.el (.sc (.fl .f32 t)))), (11, .fv (.el (.sc (.fl .f32 r)))), (12, .fv (.own 0)), (13, .fv (.el (.sc (.fl .f32 a)))), (77, .fv (.vw (some 1) ⟨.f32, xs⟩)), (78, .fv (.el (.sc (.int .i64 n)))), (79, .fv (.el (.sc (.int .i64 i))))], [some ⟨30, ⟨.f32, zs⟩⟩]⟩ k = (match (decide ((i : Int) < n) : Bool) with
  | true => (match (decide (0 ≤ (i : Int) ∧ (i : Int) < (xs.length : Int)) && true : Bool) with
    | true => (match (xs : List Nat)[Int.toNat i]? with
      | some x1 => (match (Nat.beq 30 30 && decide ((zs : List Nat).length + ([fop .quo .f32 x1 r] : List Nat).length ≤ 1099511627776) : Bool) with
        | true => (match (decide (0 ≤ (i : Int) ∧ (i : Int) < (((zs : List Nat) ++ ([fop .quo .f32 x1 r])).length : Int)) && true : Bool) with
          | true => (match ((zs : List Nat) ++ ([fop .quo .f32 x1 r]) : List Nat)[Int.toNat i]? with
            | some x2 => (match (decide (0 ≤ (i : Int) ∧ (i : Int) < (vs.length : Int)) && true : Bool) with
              | true => (match (vs : List Nat)[Int.toNat i]? with
                | some x3 => iterK a31 [0, 2, 11, 12, 13, 77, 78, 79] [0, 2, 12, 13] (codeK T6 a31 l31 Try.f31.ntmps (loopAt Try.f31 1)) m ⟨[(0, .fv (.vw (some 0) ⟨.f32, vs⟩)), (2, .fv (.el (.sc (.fl .f32 t)))), (11, .fv (.el (.sc (.fl .f32 r)))), (12, .fv (.own 0)), (13, .fv (.el (.sc (.fl .f32 (fop .add .f32 a (fop .mul .f32 x2 x3)))))), (77, .fv (.vw (some 1) ⟨.f32, xs⟩)), (78, .fv (.el (.sc (.int .i64 n)))), (79, .fv (.el (.sc (.int .i64 (IntKind.i64.wrap (i + 1))))))], [some ⟨30, ⟨.f32, (zs : List Nat) ++ ([fop .quo .f32 x1 r])⟩⟩]⟩ k
                | none => none)
              | false => none)
            | none => none)
          | false => none)
        | false => none)
      | none => none)
    | false => none)
  | false => k (.exit 2) ⟨[(0, .fv (.vw (some 0) ⟨.f32, vs⟩)), (2, .fv (.el (.sc (.fl .f32 t)))), (12, .fv (.own 0)), (13, .fv (.el (.sc (.fl .f32 a))))], [some ⟨30, ⟨.f32, zs⟩⟩]⟩) := by kernel_rfl
theorem ind31_1 (vs : List Nat) (t : Nat) (r : Nat) (xs : List Nat) (hx : (Nat.ble xs.length big) = true) (hl : (Nat.ble xs.length vs.length) = true) (k : Ex → St → R) : ∀ (m j : Nat) (zs : List Nat) (a : Nat), zs.length = j → zs.length + m ≤ 1099511627776 → 0 ≤ j → j + m = xs.length → iterK a31 [0, 2, 11, 12, 13, 77, 78, 79] [0, 2, 12, 13] (codeK T6 a31 l31 Try.f31.ntmps (loopAt Try.f31 1)) (m + 1) ⟨[(0, .fv (.vw (some 0) ⟨.f32, vs⟩)), (2, .fv (.el (.sc (.fl .f32 t)))), (11, .fv (.el (.sc (.fl .f32 r)))), (12, .fv (.own 0)), (13, .fv (.el (.sc (.fl .f32 a)))), (77, .fv (.vw (some 1) ⟨.f32, xs⟩)), (78, .fv (.el (.sc (.int .i64 (xs.length : Int))))), (79, .fv (.el (.sc (.int .i64 (j : Int)))))], [some ⟨30, ⟨.f32, zs⟩⟩]⟩ k =
    k (.exit 2) ⟨[(0, .fv (.vw (some 0) ⟨.f32, vs⟩)), (2, .fv (.el (.sc (.fl .f32 t)))), (12, .fv (.own 0)), (13, .fv (.el (.sc (.fl .f32 ((rep (fun j s => (s.1 ++ [fop .quo .f32 (xs.getD j 0) r], fop .add .f32 s.2 (fop .mul .f32 (fop .quo .f32 (xs.getD j 0) r) (vs.getD j 0)))) m j ((zs, a) : (List Nat) × Nat)).2)))))], [some ⟨30, ⟨.f32, (rep (fun j s => (s.1 ++ [fop .quo .f32 (xs.getD j 0) r], fop .add .f32 s.2 (fop .mul .f32 (fop .quo .f32 (xs.getD j 0) r) (vs.getD j 0)))) m j ((zs, a) : (List Nat) × Nat)).1⟩⟩]⟩ := by
  intro m
  induction m with
  | zero =>
    intro j zs a hs0 hs1 hlo hj
    have hx_ := big_le hx
    have hl_ := Nat.le_of_ble_eq_true hl
    have h1 : ¬ (((j : Int) < (xs.length : Int))) := by omega
    rw [st31_1]
    simp only [h1, rep, decide_false] <;> rfl
  | succ m ih =>
    intro j zs a hs0 hs1 hlo hj
    have hx_ := big_le hx
    have hl_ := Nat.le_of_ble_eq_true hl
    have h1 : ((j : Int) < (xs.length : Int)) := by omega
    have hbq : Nat.beq 30 30 = true := rfl
    have hzl : zs.length + 1 ≤ 1099511627776 := by omega
    have xb : (0 : Int) ≤ ((j : Nat) : Int) ∧ ((j : Nat) : Int) < (xs.length : Int) := by omega
    have xq : xs[Int.toNat ((j : Nat) : Int)]? = some (xs.getD (j) 0) := getI (by omega)
    have xp : xs[j]? = some (xs.getD (j) 0) := getI2 (by omega)
    have yl : j < vs.length := by omega
    have vb : (0 : Int) ≤ ((j : Nat) : Int) ∧ ((j : Nat) : Int) < (vs.length : Int) := by omega
    have vq : vs[Int.toNat ((j : Nat) : Int)]? = some (vs.getD (j) 0) := getI (by omega)
    have vp : vs[j]? = some (vs.getD (j) 0) := getI2 (by omega)
    have hrr : ∀ r : Nat, (zs ++ [r])[Int.toNat (j : Int)]? = some r := by intro r; rw [Int.toNat_natCast, List.getElem?_append_right (by omega), hs0]; simp
    have hrb : ∀ r : Nat, (0 : Int) ≤ (j : Int) ∧ (j : Int) < ((zs ++ [r]).length : Int) := by intro r; simp; omega
    have wn : IntKind.i64.wrap ((j : Int) + 1) = ((j + 1 : Nat) : Int) := wrapN (by omega) (by omega)
    rw [st31_1]
    simp only [h1, wn, hbq, hzl, xb, xq, xp, yl, vb, vq, vp, hrr, hrb, and_self, decide_true, Bool.and_true, Int.le_refl]
    try simp only [hrr, hrb, hzl, List.length_singleton, and_self, decide_true, Bool.and_true]
    exact ih (j + 1) (zs ++ [fop .quo .f32 (xs.getD j 0) r]) (fop .add .f32 a (fop .mul .f32 (fop .quo .f32 (xs.getD j 0) r) (vs.getD j 0))) (by simp; omega) (by simp; omega) (by omega) (by omega)

theorem lk31_1 : LOK T6 a31 l31 Try.f31.ntmps (loopAt Try.f31 1) := by
  intro ins outs hA s k out h
  have hA' : ([0, 2, 11, 12, 13, 77, 78, 79], [0, 2, 12, 13]) = (ins, outs) := Option.some.inj ((show a31.lp (firstRegion (loopAt Try.f31 1)) = some ([0, 2, 11, 12, 13, 77, 78, 79], [0, 2, 12, 13]) by kernel_rfl).symm.trans hA)
  cases hA'
  have hk : firstRegion (loopAt Try.f31 1) = 14 := by kernel_rfl
  rw [hk] at h
  change lp31_1 s k = some out at h
  unfold lp31_1 at h
  split at h
  · rename_i vs t r a xs n i zs
    cases hg : (decide (n = (xs.length : Int)) && (decide (i = 0) && (Nat.ble xs.length big && (Nat.ble xs.length vs.length && (Nat.beq zs.length 0 && Nat.ble (zs.length + xs.length) big))))) with
    | false => rw [hg] at h; cases h
    | true =>
      rw [hg] at h
      simp only [Bool.and_eq_true, decide_eq_true_eq] at hg
      obtain ⟨rfl, rfl, hx, hl, gs0, gs1⟩ := hg
      refine ⟨(xs.length) + 1, ?_⟩
      have hx_ := big_le hx
      have hl_ := Nat.le_of_ble_eq_true hl
      have gs1_ := big_le gs1
      have gs0_ := Nat.eq_of_beq_eq_true gs0
      exact (ind31_1 vs t r xs hx hl k (xs.length) 0 zs a (by omega) (by omega) (by omega) (by omega)).trans h
  · cases h
theorem st31_2 (vs : List Nat) (d : Nat) (re : Nat) (im : Nat) (n : Int) (i : Int) (us : List Nat) (zs : List Nat) (m : Nat) (k : Ex → St → R) : iterK a31 [0, 12, 13, 17, 18, 19, 111, 112] [19] (codeK T6 a31 l31 Try.f31.ntmps (loopAt Try.f31 2)) (m + 1) ⟨[(0, .fv (.vw (some 0) ⟨.f32, vs⟩)), (12, .fv (.own 0)), (13, .fv (.el (.sc (.fl .f32 d)))), (17, .fv (.el (.sc (.fl .f32 re)))), (18, .fv (.el (.sc (.fl .f32 im)))), (19, .fv (.own 1)), (111, .fv (.el (.sc (.int .i64 n)))), (112, .fv (.el (.sc (.int .i64 i))))], [some ⟨30, ⟨.f32, us⟩⟩, some ⟨30, ⟨.f32, zs⟩⟩]⟩ k = (match (decide ((i : Int) < n) : Bool) with
  | true => (match (decide (3 = 0) : Bool) with
    | true => none
    | false => (match (decide (3 = 0) : Bool) with
      | true => none
      | false => (match (decide (0 ≤ ((IntKind.i64.wrap (i + 1)).tmod 3 : Int) ∧ ((IntKind.i64.wrap (i + 1)).tmod 3 : Int) < (us.length : Int)) && true : Bool) with
        | true => (match (us : List Nat)[Int.toNat ((IntKind.i64.wrap (i + 1)).tmod 3)]? with
          | some x1 => (match (decide (0 ≤ ((IntKind.i64.wrap (i + 2)).tmod 3 : Int) ∧ ((IntKind.i64.wrap (i + 2)).tmod 3 : Int) < (vs.length : Int)) && true : Bool) with
            | true => (match (vs : List Nat)[Int.toNat ((IntKind.i64.wrap (i + 2)).tmod 3)]? with
              | some x2 => (match (decide (0 ≤ ((IntKind.i64.wrap (i + 2)).tmod 3 : Int) ∧ ((IntKind.i64.wrap (i + 2)).tmod 3 : Int) < (us.length : Int)) && true : Bool) with
                | true => (match (us : List Nat)[Int.toNat ((IntKind.i64.wrap (i + 2)).tmod 3)]? with
                  | some x3 => (match (decide (0 ≤ ((IntKind.i64.wrap (i + 1)).tmod 3 : Int) ∧ ((IntKind.i64.wrap (i + 1)).tmod 3 : Int) < (vs.length : Int)) && true : Bool) with
                    | true => (match (vs : List Nat)[Int.toNat ((IntKind.i64.wrap (i + 1)).tmod 3)]? with
                      | some x4 => (match (decide (0 ≤ (i : Int) ∧ (i : Int) < (vs.length : Int)) && true : Bool) with
                        | true => (match (vs : List Nat)[Int.toNat i]? with
                          | some x5 => (match (decide (0 ≤ (i : Int) ∧ (i : Int) < (us.length : Int)) && true : Bool) with
                            | true => (match (us : List Nat)[Int.toNat i]? with
                              | some x6 => (match (Nat.beq 30 30 && decide ((zs : List Nat).length + ([fop .add .f32 (fop .add .f32 (fop .mul .f32 x5 re) (fop .mul .f32 (fop .sub .f32 (fop .mul .f32 x1 x2) (fop .mul .f32 x3 x4)) im)) (fop .mul .f32 (fop .mul .f32 x6 d) (fop .sub .f32 1065353216 re))] : List Nat).length ≤ 1099511627776) : Bool) with
                                | true => iterK a31 [0, 12, 13, 17, 18, 19, 111, 112] [19] (codeK T6 a31 l31 Try.f31.ntmps (loopAt Try.f31 2)) m ⟨[(0, .fv (.vw (some 0) ⟨.f32, vs⟩)), (12, .fv (.own 0)), (13, .fv (.el (.sc (.fl .f32 d)))), (17, .fv (.el (.sc (.fl .f32 re)))), (18, .fv (.el (.sc (.fl .f32 im)))), (19, .fv (.own 1)), (111, .fv (.el (.sc (.int .i64 n)))), (112, .fv (.el (.sc (.int .i64 (IntKind.i64.wrap (i + 1))))))], [some ⟨30, ⟨.f32, us⟩⟩, some ⟨30, ⟨.f32, (zs : List Nat) ++ ([fop .add .f32 (fop .add .f32 (fop .mul .f32 x5 re) (fop .mul .f32 (fop .sub .f32 (fop .mul .f32 x1 x2) (fop .mul .f32 x3 x4)) im)) (fop .mul .f32 (fop .mul .f32 x6 d) (fop .sub .f32 1065353216 re))])⟩⟩]⟩ k
                                | false => none)
                              | none => none)
                            | false => none)
                          | none => none)
                        | false => none)
                      | none => none)
                    | false => none)
                  | none => none)
                | false => none)
              | none => none)
            | false => none)
          | none => none)
        | false => none)))
  | false => k (.exit 4) ⟨[(19, .fv (.own 0))], [some ⟨30, ⟨.f32, zs⟩⟩]⟩) := by kernel_rfl
theorem ind31_2 (vs : List Nat) (d : Nat) (re : Nat) (im : Nat) (us : List Nat) (hu : (Nat.ble 3 us.length) = true) (hv : (Nat.ble 3 vs.length) = true) (k : Ex → St → R) : ∀ (m j : Nat) (zs : List Nat), zs.length + m ≤ 1099511627776 → 0 ≤ j → j + m = 3 → iterK a31 [0, 12, 13, 17, 18, 19, 111, 112] [19] (codeK T6 a31 l31 Try.f31.ntmps (loopAt Try.f31 2)) (m + 1) ⟨[(0, .fv (.vw (some 0) ⟨.f32, vs⟩)), (12, .fv (.own 0)), (13, .fv (.el (.sc (.fl .f32 d)))), (17, .fv (.el (.sc (.fl .f32 re)))), (18, .fv (.el (.sc (.fl .f32 im)))), (19, .fv (.own 1)), (111, .fv (.el (.sc (.int .i64 (3 : Int))))), (112, .fv (.el (.sc (.int .i64 (j : Int)))))], [some ⟨30, ⟨.f32, us⟩⟩, some ⟨30, ⟨.f32, zs⟩⟩]⟩ k =
    k (.exit 4) ⟨[(19, .fv (.own 0))], [some ⟨30, ⟨.f32, rep (fun j zs => zs ++ [tvAt us vs d re im j]) m j (zs : (List Nat))⟩⟩]⟩ := by
  intro m
  induction m with
  | zero =>
    intro j zs hs0 hlo hj
    have hu_ := Nat.le_of_ble_eq_true hu
    have hv_ := Nat.le_of_ble_eq_true hv
    have h1 : ¬ (((j : Int) < (3 : Int))) := by omega
    rw [st31_2]
    simp only [h1, rep, decide_false, List.length_singleton] <;> rfl
  | succ m ih =>
    intro j zs hs0 hlo hj
    have hu_ := Nat.le_of_ble_eq_true hu
    have hv_ := Nat.le_of_ble_eq_true hv
    have h1 : ((j : Int) < (3 : Int)) := by omega
    have hbq : Nat.beq 30 30 = true := rfl
    have hzl : zs.length + 1 ≤ 1099511627776 := by omega
    have k1 : ((j + 1 : Nat) : Int).tmod 3 = (((j + 1) % 3 : Nat) : Int) := by have h : j = 0 ∨ j = 1 ∨ j = 2 := (by omega); rcases h with h | h | h <;> subst h <;> decide
    have w2 : IntKind.i64.wrap ((j : Int) + 2) = ((j + 2 : Nat) : Int) := wrapN (by omega) (by omega)
    have k2 : ((j + 2 : Nat) : Int).tmod 3 = (((j + 2) % 3 : Nat) : Int) := by have h : j = 0 ∨ j = 1 ∨ j = 2 := (by omega); rcases h with h | h | h <;> subst h <;> decide
    have m1 : (j + 1) % 3 < 3 := Nat.mod_lt _ (by decide)
    have m2 : (j + 2) % 3 < 3 := Nat.mod_lt _ (by decide)
    have d3 : decide ((3 : Int) = 0) = false := rfl
    have ab : (0 : Int) ≤ ((j : Nat) : Int) ∧ ((j : Nat) : Int) < (us.length : Int) := by omega
    have aq : us[Int.toNat ((j : Nat) : Int)]? = some (us.getD (j) 0) := getI (by omega)
    have ap : us[j]? = some (us.getD (j) 0) := getI2 (by omega)
    have bb : (0 : Int) ≤ (((j + 1) % 3 : Nat) : Int) ∧ (((j + 1) % 3 : Nat) : Int) < (us.length : Int) := by omega
    have bq : us[Int.toNat (((j + 1) % 3 : Nat) : Int)]? = some (us.getD ((j + 1) % 3) 0) := getI (by omega)
    have bp : us[(j + 1) % 3]? = some (us.getD ((j + 1) % 3) 0) := getI2 (by omega)
    have cb : (0 : Int) ≤ (((j + 2) % 3 : Nat) : Int) ∧ (((j + 2) % 3 : Nat) : Int) < (us.length : Int) := by omega
    have cq : us[Int.toNat (((j + 2) % 3 : Nat) : Int)]? = some (us.getD ((j + 2) % 3) 0) := getI (by omega)
    have cp : us[(j + 2) % 3]? = some (us.getD ((j + 2) % 3) 0) := getI2 (by omega)
    have eb : (0 : Int) ≤ ((j : Nat) : Int) ∧ ((j : Nat) : Int) < (vs.length : Int) := by omega
    have eq : vs[Int.toNat ((j : Nat) : Int)]? = some (vs.getD (j) 0) := getI (by omega)
    have ep : vs[j]? = some (vs.getD (j) 0) := getI2 (by omega)
    have fb : (0 : Int) ≤ (((j + 1) % 3 : Nat) : Int) ∧ (((j + 1) % 3 : Nat) : Int) < (vs.length : Int) := by omega
    have fq : vs[Int.toNat (((j + 1) % 3 : Nat) : Int)]? = some (vs.getD ((j + 1) % 3) 0) := getI (by omega)
    have fp : vs[(j + 1) % 3]? = some (vs.getD ((j + 1) % 3) 0) := getI2 (by omega)
    have gb : (0 : Int) ≤ (((j + 2) % 3 : Nat) : Int) ∧ (((j + 2) % 3 : Nat) : Int) < (vs.length : Int) := by omega
    have gq : vs[Int.toNat (((j + 2) % 3 : Nat) : Int)]? = some (vs.getD ((j + 2) % 3) 0) := getI (by omega)
    have gp : vs[(j + 2) % 3]? = some (vs.getD ((j + 2) % 3) 0) := getI2 (by omega)
    have wn : IntKind.i64.wrap ((j : Int) + 1) = ((j + 1 : Nat) : Int) := wrapN (by omega) (by omega)
    rw [st31_2]
    simp only [h1, wn, hbq, hzl, k1, w2, k2, m1, m2, d3, ab, aq, ap, bb, bq, bp, cb, cq, cp, eb, eq, ep, fb, fq, fp, gb, gq, gp, and_self, decide_true, Bool.and_true, Int.le_refl, List.length_singleton]
    exact ih (j + 1) _ (by simp; omega) (by omega) (by omega)

theorem lk31_2 : LOK T6 a31 l31 Try.f31.ntmps (loopAt Try.f31 2) := by
  intro ins outs hA s k out h
  have hA' : ([0, 12, 13, 17, 18, 19, 111, 112], [19]) = (ins, outs) := Option.some.inj ((show a31.lp (firstRegion (loopAt Try.f31 2)) = some ([0, 12, 13, 17, 18, 19, 111, 112], [19]) by kernel_rfl).symm.trans hA)
  cases hA'
  have hk : firstRegion (loopAt Try.f31 2) = 23 := by kernel_rfl
  rw [hk] at h
  change lp31_2 s k = some out at h
  unfold lp31_2 at h
  split at h
  · rename_i vs d re im n i us zs
    cases hg : (decide (n = (3 : Int)) && (decide (i = 0) && (Nat.ble 3 us.length && (Nat.ble 3 vs.length && Nat.ble (zs.length + 3) big)))) with
    | false => rw [hg] at h; cases h
    | true =>
      rw [hg] at h
      simp only [Bool.and_eq_true, decide_eq_true_eq] at hg
      obtain ⟨rfl, rfl, hu, hv, gs0⟩ := hg
      refine ⟨(3) + 1, ?_⟩
      have hu_ := Nat.le_of_ble_eq_true hu
      have hv_ := Nat.le_of_ble_eq_true hv
      have gs0_ := big_le gs0
      exact (ind31_2 vs d re im us hu hv k (3) 0 zs (by omega) (by omega) (by omega)).trans h
  · cases h
theorem e31 (vs : List Nat) (xs : List Nat) (t : Nat) : runFn T6 a31 l31 Try.f31 [.vw none ⟨.f32, vs⟩, .vw none ⟨.f32, xs⟩, .el (.sc (.fl .f32 t))] = (match (!(vec3 vs) : Bool) with
  | true => some ⟨[.nil, .el (.sc (.bo false))], none⟩
  | false => (match (!(vec3 xs) : Bool) with
    | true => some ⟨[.nil, .el (.sc (.bo false))], none⟩
    | false => (match (!(fin t) : Bool) with
      | true => some ⟨[.nil, .el (.sc (.bo false))], none⟩
      | false => (match (decide (0 ≤ (0 : Int) ∧ (0 : Int) < (xs.length : Int)) && true : Bool) with
        | true => (match (xs : List Nat)[Int.toNat 0]? with
          | some x1 => (match (fcmp .eql .f32 x1 0 : Bool) with
            | true => (match (decide (0 ≤ (1 : Int) ∧ (1 : Int) < (xs.length : Int)) && true : Bool) with
              | true => (match (xs : List Nat)[Int.toNat 1]? with
                | some x2 => (match (fcmp .eql .f32 x2 0 : Bool) with
                  | true => (match (decide (0 ≤ (2 : Int) ∧ (2 : Int) < (xs.length : Int)) && true : Bool) with
                    | true => (match (xs : List Nat)[Int.toNat 2]? with
                      | some x3 => (match (fcmp .eql .f32 x3 0 : Bool) with
                        | true => some ⟨[.nil, .el (.sc (.bo false))], none⟩
                        | false => (match ((decide (((xs.length : Int)) = (xs.length : Int)) && (decide (0 = 0) && Nat.ble xs.length big)) : Bool) with
                          | true => (match (!(fin (rootF (rep (fun j a => fop .add .f32 a (fop .mul .f32 (xs.getD j 0) (xs.getD j 0))) (xs.length) 0 (0 : Nat)))) : Bool) with
                            | true => some ⟨[.nil, .el (.sc (.bo false))], none⟩
                            | false => (match (fcmp .eql .f32 (rootF (rep (fun j a => fop .add .f32 a (fop .mul .f32 (xs.getD j 0) (xs.getD j 0))) (xs.length) 0 (0 : Nat))) 0 : Bool) with
                              | true => some ⟨[.nil, .el (.sc (.bo false))], none⟩
                              | false => (match ((decide (((xs.length : Int)) = (xs.length : Int)) && (decide (0 = 0) && (Nat.ble xs.length big && (Nat.ble xs.length vs.length && (Nat.beq ([] : List Nat).length 0 && Nat.ble (([] : List Nat).length + xs.length) big))))) : Bool) with
                                | true => (match ((decide (((vs.length : Int)) = (3 : Int)) && (decide (0 = 0) && (Nat.ble 3 ((rep (fun j s => (s.1 ++ [fop .quo .f32 (xs.getD j 0) (rootF (rep (fun j a => fop .add .f32 a (fop .mul .f32 (xs.getD j 0) (xs.getD j 0))) (xs.length) 0 (0 : Nat)))], fop .add .f32 s.2 (fop .mul .f32 (fop .quo .f32 (xs.getD j 0) (rootF (rep (fun j a => fop .add .f32 a (fop .mul .f32 (xs.getD j 0) (xs.getD j 0))) (xs.length) 0 (0 : Nat)))) (vs.getD j 0)))) (xs.length) 0 ((([] : List Nat), 0) : (List Nat) × Nat)).1 : List Nat).length && (Nat.ble 3 vs.length && Nat.ble (([] : List Nat).length + 3) big)))) : Bool) with
                                  | true => (match (Nat.ble (rep (fun j zs => zs ++ [tvAt ((rep (fun j s => (s.1 ++ [fop .quo .f32 (xs.getD j 0) (rootF (rep (fun j a => fop .add .f32 a (fop .mul .f32 (xs.getD j 0) (xs.getD j 0))) (xs.length) 0 (0 : Nat)))], fop .add .f32 s.2 (fop .mul .f32 (fop .quo .f32 (xs.getD j 0) (rootF (rep (fun j a => fop .add .f32 a (fop .mul .f32 (xs.getD j 0) (xs.getD j 0))) (xs.length) 0 (0 : Nat)))) (vs.getD j 0)))) (xs.length) 0 ((([] : List Nat), 0) : (List Nat) × Nat)).1 : List Nat) vs ((rep (fun j s => (s.1 ++ [fop .quo .f32 (xs.getD j 0) (rootF (rep (fun j a => fop .add .f32 a (fop .mul .f32 (xs.getD j 0) (xs.getD j 0))) (xs.length) 0 (0 : Nat)))], fop .add .f32 s.2 (fop .mul .f32 (fop .quo .f32 (xs.getD j 0) (rootF (rep (fun j a => fop .add .f32 a (fop .mul .f32 (xs.getD j 0) (xs.getD j 0))) (xs.length) 0 (0 : Nat)))) (vs.getD j 0)))) (xs.length) 0 ((([] : List Nat), 0) : (List Nat) × Nat)).2) (phRe (wid t)) (phIm (wid t)) j]) (3) 0 (([] : List Nat) : (List Nat))).length big : Bool) with
                                    | true => (match ((rep (fun j zs => zs ++ [tvAt ((rep (fun j s => (s.1 ++ [fop .quo .f32 (xs.getD j 0) (rootF (rep (fun j a => fop .add .f32 a (fop .mul .f32 (xs.getD j 0) (xs.getD j 0))) (xs.length) 0 (0 : Nat)))], fop .add .f32 s.2 (fop .mul .f32 (fop .quo .f32 (xs.getD j 0) (rootF (rep (fun j a => fop .add .f32 a (fop .mul .f32 (xs.getD j 0) (xs.getD j 0))) (xs.length) 0 (0 : Nat)))) (vs.getD j 0)))) (xs.length) 0 ((([] : List Nat), 0) : (List Nat) × Nat)).1 : List Nat) vs ((rep (fun j s => (s.1 ++ [fop .quo .f32 (xs.getD j 0) (rootF (rep (fun j a => fop .add .f32 a (fop .mul .f32 (xs.getD j 0) (xs.getD j 0))) (xs.length) 0 (0 : Nat)))], fop .add .f32 s.2 (fop .mul .f32 (fop .quo .f32 (xs.getD j 0) (rootF (rep (fun j a => fop .add .f32 a (fop .mul .f32 (xs.getD j 0) (xs.getD j 0))) (xs.length) 0 (0 : Nat)))) (vs.getD j 0)))) (xs.length) 0 ((([] : List Nat), 0) : (List Nat) × Nat)).2) (phRe (wid t)) (phIm (wid t)) j]) (3) 0 (([] : List Nat) : (List Nat))).all fin : Bool) with
                                      | true => some ⟨[.fresh 30 ⟨.f32, rep (fun j zs => zs ++ [tvAt ((rep (fun j s => (s.1 ++ [fop .quo .f32 (xs.getD j 0) (rootF (rep (fun j a => fop .add .f32 a (fop .mul .f32 (xs.getD j 0) (xs.getD j 0))) (xs.length) 0 (0 : Nat)))], fop .add .f32 s.2 (fop .mul .f32 (fop .quo .f32 (xs.getD j 0) (rootF (rep (fun j a => fop .add .f32 a (fop .mul .f32 (xs.getD j 0) (xs.getD j 0))) (xs.length) 0 (0 : Nat)))) (vs.getD j 0)))) (xs.length) 0 ((([] : List Nat), 0) : (List Nat) × Nat)).1 : List Nat) vs ((rep (fun j s => (s.1 ++ [fop .quo .f32 (xs.getD j 0) (rootF (rep (fun j a => fop .add .f32 a (fop .mul .f32 (xs.getD j 0) (xs.getD j 0))) (xs.length) 0 (0 : Nat)))], fop .add .f32 s.2 (fop .mul .f32 (fop .quo .f32 (xs.getD j 0) (rootF (rep (fun j a => fop .add .f32 a (fop .mul .f32 (xs.getD j 0) (xs.getD j 0))) (xs.length) 0 (0 : Nat)))) (vs.getD j 0)))) (xs.length) 0 ((([] : List Nat), 0) : (List Nat) × Nat)).2) (phRe (wid t)) (phIm (wid t)) j]) (3) 0 (([] : List Nat) : (List Nat))⟩, .el (.sc (.bo true))], none⟩
                                      | false => some ⟨[.nil, .el (.sc (.bo false))], none⟩)
                                    | false => none)
                                  | false => none)
                                | false => none)))
                          | false => none))
                      | none => none)
                    | false => none)
                  | false => (match ((decide (((xs.length : Int)) = (xs.length : Int)) && (decide (0 = 0) && Nat.ble xs.length big)) : Bool) with
                    | true => (match (!(fin (rootF (rep (fun j a => fop .add .f32 a (fop .mul .f32 (xs.getD j 0) (xs.getD j 0))) (xs.length) 0 (0 : Nat)))) : Bool) with
                      | true => some ⟨[.nil, .el (.sc (.bo false))], none⟩
                      | false => (match (fcmp .eql .f32 (rootF (rep (fun j a => fop .add .f32 a (fop .mul .f32 (xs.getD j 0) (xs.getD j 0))) (xs.length) 0 (0 : Nat))) 0 : Bool) with
                        | true => some ⟨[.nil, .el (.sc (.bo false))], none⟩
                        | false => (match ((decide (((xs.length : Int)) = (xs.length : Int)) && (decide (0 = 0) && (Nat.ble xs.length big && (Nat.ble xs.length vs.length && (Nat.beq ([] : List Nat).length 0 && Nat.ble (([] : List Nat).length + xs.length) big))))) : Bool) with
                          | true => (match ((decide (((vs.length : Int)) = (3 : Int)) && (decide (0 = 0) && (Nat.ble 3 ((rep (fun j s => (s.1 ++ [fop .quo .f32 (xs.getD j 0) (rootF (rep (fun j a => fop .add .f32 a (fop .mul .f32 (xs.getD j 0) (xs.getD j 0))) (xs.length) 0 (0 : Nat)))], fop .add .f32 s.2 (fop .mul .f32 (fop .quo .f32 (xs.getD j 0) (rootF (rep (fun j a => fop .add .f32 a (fop .mul .f32 (xs.getD j 0) (xs.getD j 0))) (xs.length) 0 (0 : Nat)))) (vs.getD j 0)))) (xs.length) 0 ((([] : List Nat), 0) : (List Nat) × Nat)).1 : List Nat).length && (Nat.ble 3 vs.length && Nat.ble (([] : List Nat).length + 3) big)))) : Bool) with
                            | true => (match (Nat.ble (rep (fun j zs => zs ++ [tvAt ((rep (fun j s => (s.1 ++ [fop .quo .f32 (xs.getD j 0) (rootF (rep (fun j a => fop .add .f32 a (fop .mul .f32 (xs.getD j 0) (xs.getD j 0))) (xs.length) 0 (0 : Nat)))], fop .add .f32 s.2 (fop .mul .f32 (fop .quo .f32 (xs.getD j 0) (rootF (rep (fun j a => fop .add .f32 a (fop .mul .f32 (xs.getD j 0) (xs.getD j 0))) (xs.length) 0 (0 : Nat)))) (vs.getD j 0)))) (xs.length) 0 ((([] : List Nat), 0) : (List Nat) × Nat)).1 : List Nat) vs ((rep (fun j s => (s.1 ++ [fop .quo .f32 (xs.getD j 0) (rootF (rep (fun j a => fop .add .f32 a (fop .mul .f32 (xs.getD j 0) (xs.getD j 0))) (xs.length) 0 (0 : Nat)))], fop .add .f32 s.2 (fop .mul .f32 (fop .quo .f32 (xs.getD j 0) (rootF (rep (fun j a => fop .add .f32 a (fop .mul .f32 (xs.getD j 0) (xs.getD j 0))) (xs.length) 0 (0 : Nat)))) (vs.getD j 0)))) (xs.length) 0 ((([] : List Nat), 0) : (List Nat) × Nat)).2) (phRe (wid t)) (phIm (wid t)) j]) (3) 0 (([] : List Nat) : (List Nat))).length big : Bool) with
                              | true => (match ((rep (fun j zs => zs ++ [tvAt ((rep (fun j s => (s.1 ++ [fop .quo .f32 (xs.getD j 0) (rootF (rep (fun j a => fop .add .f32 a (fop .mul .f32 (xs.getD j 0) (xs.getD j 0))) (xs.length) 0 (0 : Nat)))], fop .add .f32 s.2 (fop .mul .f32 (fop .quo .f32 (xs.getD j 0) (rootF (rep (fun j a => fop .add .f32 a (fop .mul .f32 (xs.getD j 0) (xs.getD j 0))) (xs.length) 0 (0 : Nat)))) (vs.getD j 0)))) (xs.length) 0 ((([] : List Nat), 0) : (List Nat) × Nat)).1 : List Nat) vs ((rep (fun j s => (s.1 ++ [fop .quo .f32 (xs.getD j 0) (rootF (rep (fun j a => fop .add .f32 a (fop .mul .f32 (xs.getD j 0) (xs.getD j 0))) (xs.length) 0 (0 : Nat)))], fop .add .f32 s.2 (fop .mul .f32 (fop .quo .f32 (xs.getD j 0) (rootF (rep (fun j a => fop .add .f32 a (fop .mul .f32 (xs.getD j 0) (xs.getD j 0))) (xs.length) 0 (0 : Nat)))) (vs.getD j 0)))) (xs.length) 0 ((([] : List Nat), 0) : (List Nat) × Nat)).2) (phRe (wid t)) (phIm (wid t)) j]) (3) 0 (([] : List Nat) : (List Nat))).all fin : Bool) with
                                | true => some ⟨[.fresh 30 ⟨.f32, rep (fun j zs => zs ++ [tvAt ((rep (fun j s => (s.1 ++ [fop .quo .f32 (xs.getD j 0) (rootF (rep (fun j a => fop .add .f32 a (fop .mul .f32 (xs.getD j 0) (xs.getD j 0))) (xs.length) 0 (0 : Nat)))], fop .add .f32 s.2 (fop .mul .f32 (fop .quo .f32 (xs.getD j 0) (rootF (rep (fun j a => fop .add .f32 a (fop .mul .f32 (xs.getD j 0) (xs.getD j 0))) (xs.length) 0 (0 : Nat)))) (vs.getD j 0)))) (xs.length) 0 ((([] : List Nat), 0) : (List Nat) × Nat)).1 : List Nat) vs ((rep (fun j s => (s.1 ++ [fop .quo .f32 (xs.getD j 0) (rootF (rep (fun j a => fop .add .f32 a (fop .mul .f32 (xs.getD j 0) (xs.getD j 0))) (xs.length) 0 (0 : Nat)))], fop .add .f32 s.2 (fop .mul .f32 (fop .quo .f32 (xs.getD j 0) (rootF (rep (fun j a => fop .add .f32 a (fop .mul .f32 (xs.getD j 0) (xs.getD j 0))) (xs.length) 0 (0 : Nat)))) (vs.getD j 0)))) (xs.length) 0 ((([] : List Nat), 0) : (List Nat) × Nat)).2) (phRe (wid t)) (phIm (wid t)) j]) (3) 0 (([] : List Nat) : (List Nat))⟩, .el (.sc (.bo true))], none⟩
                                | false => some ⟨[.nil, .el (.sc (.bo false))], none⟩)
                              | false => none)
                            | false => none)
                          | false => none)))
                    | false => none))
                | none => none)
              | false => none)
            | false => (match ((decide (((xs.length : Int)) = (xs.length : Int)) && (decide (0 = 0) && Nat.ble xs.length big)) : Bool) with
              | true => (match (!(fin (rootF (rep (fun j a => fop .add .f32 a (fop .mul .f32 (xs.getD j 0) (xs.getD j 0))) (xs.length) 0 (0 : Nat)))) : Bool) with
                | true => some ⟨[.nil, .el (.sc (.bo false))], none⟩
                | false => (match (fcmp .eql .f32 (rootF (rep (fun j a => fop .add .f32 a (fop .mul .f32 (xs.getD j 0) (xs.getD j 0))) (xs.length) 0 (0 : Nat))) 0 : Bool) with
                  | true => some ⟨[.nil, .el (.sc (.bo false))], none⟩
                  | false => (match ((decide (((xs.length : Int)) = (xs.length : Int)) && (decide (0 = 0) && (Nat.ble xs.length big && (Nat.ble xs.length vs.length && (Nat.beq ([] : List Nat).length 0 && Nat.ble (([] : List Nat).length + xs.length) big))))) : Bool) with
                    | true => (match ((decide (((vs.length : Int)) = (3 : Int)) && (decide (0 = 0) && (Nat.ble 3 ((rep (fun j s => (s.1 ++ [fop .quo .f32 (xs.getD j 0) (rootF (rep (fun j a => fop .add .f32 a (fop .mul .f32 (xs.getD j 0) (xs.getD j 0))) (xs.length) 0 (0 : Nat)))], fop .add .f32 s.2 (fop .mul .f32 (fop .quo .f32 (xs.getD j 0) (rootF (rep (fun j a => fop .add .f32 a (fop .mul .f32 (xs.getD j 0) (xs.getD j 0))) (xs.length) 0 (0 : Nat)))) (vs.getD j 0)))) (xs.length) 0 ((([] : List Nat), 0) : (List Nat) × Nat)).1 : List Nat).length && (Nat.ble 3 vs.length && Nat.ble (([] : List Nat).length + 3) big)))) : Bool) with
                      | true => (match (Nat.ble (rep (fun j zs => zs ++ [tvAt ((rep (fun j s => (s.1 ++ [fop .quo .f32 (xs.getD j 0) (rootF (rep (fun j a => fop .add .f32 a (fop .mul .f32 (xs.getD j 0) (xs.getD j 0))) (xs.length) 0 (0 : Nat)))], fop .add .f32 s.2 (fop .mul .f32 (fop .quo .f32 (xs.getD j 0) (rootF (rep (fun j a => fop .add .f32 a (fop .mul .f32 (xs.getD j 0) (xs.getD j 0))) (xs.length) 0 (0 : Nat)))) (vs.getD j 0)))) (xs.length) 0 ((([] : List Nat), 0) : (List Nat) × Nat)).1 : List Nat) vs ((rep (fun j s => (s.1 ++ [fop .quo .f32 (xs.getD j 0) (rootF (rep (fun j a => fop .add .f32 a (fop .mul .f32 (xs.getD j 0) (xs.getD j 0))) (xs.length) 0 (0 : Nat)))], fop .add .f32 s.2 (fop .mul .f32 (fop .quo .f32 (xs.getD j 0) (rootF (rep (fun j a => fop .add .f32 a (fop .mul .f32 (xs.getD j 0) (xs.getD j 0))) (xs.length) 0 (0 : Nat)))) (vs.getD j 0)))) (xs.length) 0 ((([] : List Nat), 0) : (List Nat) × Nat)).2) (phRe (wid t)) (phIm (wid t)) j]) (3) 0 (([] : List Nat) : (List Nat))).length big : Bool) with
                        | true => (match ((rep (fun j zs => zs ++ [tvAt ((rep (fun j s => (s.1 ++ [fop .quo .f32 (xs.getD j 0) (rootF (rep (fun j a => fop .add .f32 a (fop .mul .f32 (xs.getD j 0) (xs.getD j 0))) (xs.length) 0 (0 : Nat)))], fop .add .f32 s.2 (fop .mul .f32 (fop .quo .f32 (xs.getD j 0) (rootF (rep (fun j a => fop .add .f32 a (fop .mul .f32 (xs.getD j 0) (xs.getD j 0))) (xs.length) 0 (0 : Nat)))) (vs.getD j 0)))) (xs.length) 0 ((([] : List Nat), 0) : (List Nat) × Nat)).1 : List Nat) vs ((rep (fun j s => (s.1 ++ [fop .quo .f32 (xs.getD j 0) (rootF (rep (fun j a => fop .add .f32 a (fop .mul .f32 (xs.getD j 0) (xs.getD j 0))) (xs.length) 0 (0 : Nat)))], fop .add .f32 s.2 (fop .mul .f32 (fop .quo .f32 (xs.getD j 0) (rootF (rep (fun j a => fop .add .f32 a (fop .mul .f32 (xs.getD j 0) (xs.getD j 0))) (xs.length) 0 (0 : Nat)))) (vs.getD j 0)))) (xs.length) 0 ((([] : List Nat), 0) : (List Nat) × Nat)).2) (phRe (wid t)) (phIm (wid t)) j]) (3) 0 (([] : List Nat) : (List Nat))).all fin : Bool) with
                          | true => some ⟨[.fresh 30 ⟨.f32, rep (fun j zs => zs ++ [tvAt ((rep (fun j s => (s.1 ++ [fop .quo .f32 (xs.getD j 0) (rootF (rep (fun j a => fop .add .f32 a (fop .mul .f32 (xs.getD j 0) (xs.getD j 0))) (xs.length) 0 (0 : Nat)))], fop .add .f32 s.2 (fop .mul .f32 (fop .quo .f32 (xs.getD j 0) (rootF (rep (fun j a => fop .add .f32 a (fop .mul .f32 (xs.getD j 0) (xs.getD j 0))) (xs.length) 0 (0 : Nat)))) (vs.getD j 0)))) (xs.length) 0 ((([] : List Nat), 0) : (List Nat) × Nat)).1 : List Nat) vs ((rep (fun j s => (s.1 ++ [fop .quo .f32 (xs.getD j 0) (rootF (rep (fun j a => fop .add .f32 a (fop .mul .f32 (xs.getD j 0) (xs.getD j 0))) (xs.length) 0 (0 : Nat)))], fop .add .f32 s.2 (fop .mul .f32 (fop .quo .f32 (xs.getD j 0) (rootF (rep (fun j a => fop .add .f32 a (fop .mul .f32 (xs.getD j 0) (xs.getD j 0))) (xs.length) 0 (0 : Nat)))) (vs.getD j 0)))) (xs.length) 0 ((([] : List Nat), 0) : (List Nat) × Nat)).2) (phRe (wid t)) (phIm (wid t)) j]) (3) 0 (([] : List Nat) : (List Nat))⟩, .el (.sc (.bo true))], none⟩
                          | false => some ⟨[.nil, .el (.sc (.bo false))], none⟩)
                        | false => none)
                      | false => none)
                    | false => none)))
              | false => none))
          | none => none)
        | false => none)))) := by kernel_rfl
theorem s31 (vs : List Nat) (xs : List Nat) (t : Nat) : runFn T6 a31 l31 Try.f31 [.vw none ⟨.f32, vs⟩, .vw none ⟨.f32, xs⟩, .el (.sc (.fl .f32 t))] = (match (tvOk vs xs t : Bool) with
  | true => some ⟨[.fresh 30 ⟨.f32, tvX vs xs t⟩, .el (.sc (.bo true))], none⟩
  | false => some ⟨[.nil, .el (.sc (.bo false))], none⟩) := by
  rw [e31]
  unfold tvOk
  cases h1 : vec3 vs with
  | false => simp
  | true =>
    cases h2 : vec3 xs with
    | false => simp
    | true =>
      cases h3 : fin t with
      | false => simp
      | true =>
        have b1 := h1
        unfold vec3 at b1
        rw [Bool.and_eq_true, decide_eq_true_eq] at b1
        have b2 := h2
        unfold vec3 at b2
        rw [Bool.and_eq_true, decide_eq_true_eq] at b2
        have hx : Nat.ble xs.length big = true := big_of (by omega)
        have hv : Nat.ble 3 vs.length = true := Nat.ble_eq_true_of_le (by omega)
        have hxx : Nat.ble xs.length xs.length = true := Nat.ble_eq_true_of_le (Nat.le_refl _)
        have hxv : Nat.ble xs.length vs.length = true := Nat.ble_eq_true_of_le (by omega)
        have hu : Nat.ble 3 (tvU xs (tvR xs)).length = true := Nat.ble_eq_true_of_le (by rw [tvU_len]; omega)
        have hub : Nat.ble (tvU xs (tvR xs)).length big = true := big_of (by rw [tvU_len]; omega)
        have huv : Nat.ble (tvU xs (tvR xs)).length vs.length = true := Nat.ble_eq_true_of_le (by rw [tvU_len]; omega)
        have hr : Nat.ble (tvX vs xs t).length big = true := big_of (by rw [tvX_len]; omega)
        have eR : rootF (dot2 xs xs) = tvR xs := rfl
        have e := rep_map (tvAt (tvU xs (tvR xs)) vs (dot2 (tvU xs (tvR xs)) vs) (phRe (wid t)) (phIm (wid t))) 3 0 []
        have e2 : (fromTo 0 3).map (tvAt (tvU xs (tvR xs)) vs (dot2 (tvU xs (tvR xs)) vs) (phRe (wid t)) (phIm (wid t))) = tvX vs xs t := rfl
        rw [List.nil_append, e2] at e
        have q0 : xs[Int.toNat 0]? = some (xs.getD 0 0) := getq (by omega)
        have q1 : xs[Int.toNat 1]? = some (xs.getD 1 0) := getq (by omega)
        have q2 : xs[Int.toNat 2]? = some (xs.getD 2 0) := getq (by omega)
        have p0 : (0 : Int) ≤ 0 ∧ (0 : Int) < (xs.length : Int) := by omega
        have p1 : (0 : Int) ≤ 1 ∧ (1 : Int) < (xs.length : Int) := by omega
        have p2 : (0 : Int) ≤ 2 ∧ (2 : Int) < (xs.length : Int) := by omega
        have er := tv_run vs xs (tvR xs)
        have ed : rep (fun j a => fop .add .f32 a (fop .mul .f32 (xs.getD j 0) (xs.getD j 0))) xs.length 0 0 = dot2 xs xs := rfl
        have hv3 : (vs.length : Int) = (3 : Int) := by omega
        have hzb : Nat.ble (0 + xs.length) big = true := big_of (by omega)
        have hb3 : Nat.ble (0 + 3) big = true := by decide
        have h7 : above (tvR xs) = (fin (tvR xs) && !fcmp .eql .f32 (tvR xs) 0) := root_above (dot2 xs xs)
        have hzero := @tv_zero xs h2
        simp only [hx, hxx, hxv, p0, p1, p2, q0, q1, q2, ed, eR, er, hu, hub, huv, hv, hv3, hzb, hb3, e, hr, Nat.beq_refl, List.length_nil, and_self, decide_true, Bool.and_self, Bool.not_true, Bool.true_and, Bool.and_true]
        rw [h7] at hzero ⊢
        cases hf : fin (tvR xs) <;> cases hz0 : fcmp .eql .f32 (tvR xs) 0 <;> cases z0 : fcmp .eql .f32 (xs.getD 0 0) 0 <;> cases z1 : fcmp .eql .f32 (xs.getD 1 0) 0 <;> cases z2 : fcmp .eql .f32 (xs.getD 2 0) 0 <;> first
          | rfl
          | (cases h6 : (tvX vs xs t).all fin <;> rfl)
          | (rw [hf, hz0] at hzero; exact absurd (hzero z0 z1 z2) (by decide))
theorem c31 (vs : List Nat) (xs : List Nat) (t : Nat) (k : List RV → R) (out : Out) (h : k [.fresh 30 ⟨.f32, orNil (tvOk vs xs t) (tvX vs xs t)⟩, .el (.sc (.bo (tvOk vs xs t)))] = some out) : ∃ rs, Real Try.prog 31 ∧ COK Try.prog 31 [.vw none ⟨.f32, vs⟩, .vw none ⟨.f32, xs⟩, .el (.sc (.fl .f32 t))] rs ∧ k rs = some out := by
  cases g0 : (tvOk vs xs t : Bool) with
  | true =>
    rw [g0] at h
    exact ⟨_, real Try.func31 (by kernel_rfl), fn_ok tok6 (A := a31) (L := l31) (r := none) Try.func31 (by kernel_rfl) (by kernel_rfl) (loops3 (by kernel_rfl) lk31 lk31_1 lk31_2) (by rw [s31, g0]; rfl), h⟩
  | false =>
    rw [g0] at h
    exact ⟨_, real Try.func31 (by kernel_rfl), COK.nil (fn_ok tok6 (A := a31) (L := l31) (r := none) Try.func31 (by kernel_rfl) (by kernel_rfl) (loops3 (by kernel_rfl) lk31 lk31_1 lk31_2) (by rw [s31, g0] <;> rfl)), h⟩

def S7 : SFn := fun f args k => match f, args with
  | 31, [.vw none ⟨.f32, vs⟩, .vw none ⟨.f32, xs⟩, .el (.sc (.fl .f32 t))] => k [.fresh 30 ⟨.f32, orNil (tvOk vs xs t) (tvX vs xs t)⟩, .el (.sc (.bo (tvOk vs xs t)))]
  | _, _ => S6 f args k
abbrev M7 : MFn := M6
def T7 : TT := tab.T S7 muts M7
theorem tok7 : TOK Try.prog T7 := by
  refine (tab_ok tabok).tok (fun f args k out h => ?_) (fun f vec args k out h => ?_)
  · change S7 f args k = some out at h
    unfold S7 at h
    split at h
    · exact (fun k out h => cok_call (c31 _ _ _ k out h)) k out h
    · exact tok6.S f args k out h
  · exact tok6.M f vec args k out h

end Go.Sm.Ytdeplgocckdbiaa
