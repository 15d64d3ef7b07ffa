/- What the functions hand back: level 4. -/
import Derived.Test.YtdeplgocckdbiaaD4
namespace Go.Sm.Ytdeplgocckdbiaa
open Go Go.Sm Go.RowKit Go.Proofs

/-! spec.SoftScan -/
def a15 : Ann := ann [(5, [0, 1, 6, 7], [6])] [4, 5] 0
def lp15 : St → (Ex → St → R) → R := fun s k => match s with
  | ⟨[(0, .fv (.vw (some 0) ⟨.f32, xs⟩)), (1, .fv (.el (.sc (.int .i64 d)))), (6, .fv (.own 0)), (7, .fv (.el (.sc (.int .i64 i))))], [some ⟨30, ⟨.f32, zs⟩⟩]⟩ => (match ((decide (i = 0) && (Nat.ble xs.length big && Nat.ble ((zs : List Nat).length + xs.length) big)) : Bool) with
    | true => k (.exit 0) ⟨[(6, .fv (.own 0))], [some ⟨30, ⟨.f32, rep (fun j zs => zs ++ [softAt xs (xs.length : Int) d j]) (xs.length) 0 ((zs : List Nat) : (List Nat))⟩⟩]⟩
    | false => none)
  | _ => none
def l15 : Loops := fun key s k => bif Nat.beq key 5 then lp15 s k else none
theorem st15 (xs : List Nat) (d : Int) (i : Int) (zs : List Nat) (m : Nat) (k : Ex → St → R) : iterK a15 [0, 1, 6, 7] [6] (codeK T4 a15 l15 Try.f15.ntmps (loopAt Try.f15 0)) (m + 1) ⟨[(0, .fv (.vw (some 0) ⟨.f32, xs⟩)), (1, .fv (.el (.sc (.int .i64 d)))), (6, .fv (.own 0)), (7, .fv (.el (.sc (.int .i64 i))))], [some ⟨30, ⟨.f32, zs⟩⟩]⟩ k = (match (decide ((i : Int) < (xs.length : Int)) : Bool) with
  | true => (match ((d : Int) == 1 : Bool) with
    | true => (match ((d : Int) == 2 : Bool) with
      | true => (match (decide (0 ≤ (i : Int) ∧ (i : Int) < (xs.length : Int)) && true : Bool) with
        | true => (match (xs : List Nat)[Int.toNat i]? with
          | some x1 => (match (Nat.beq 30 30 && decide ((zs : List Nat).length + ([fop .mul .f32 x1 (fop .mul .f32 1056964608 (fop .add .f32 1065353216 (phRe (wid (fop .mul .f32 1056964608 (fop .quo .f32 (fint .f32 i) (fint .f32 ((xs.length : Int)))))))))] : List Nat).length ≤ 1099511627776) : Bool) with
            | true => iterK a15 [0, 1, 6, 7] [6] (codeK T4 a15 l15 Try.f15.ntmps (loopAt Try.f15 0)) m ⟨[(0, .fv (.vw (some 0) ⟨.f32, xs⟩)), (1, .fv (.el (.sc (.int .i64 d)))), (6, .fv (.own 0)), (7, .fv (.el (.sc (.int .i64 (IntKind.i64.wrap (i + 1))))))], [some ⟨30, ⟨.f32, (zs : List Nat) ++ ([fop .mul .f32 x1 (fop .mul .f32 1056964608 (fop .add .f32 1065353216 (phRe (wid (fop .mul .f32 1056964608 (fop .quo .f32 (fint .f32 i) (fint .f32 ((xs.length : Int)))))))))])⟩⟩]⟩ k
            | false => none)
          | none => none)
        | false => none)
      | false => (match (decide (0 ≤ (i : Int) ∧ (i : Int) < (xs.length : Int)) && true : Bool) with
        | true => (match (xs : List Nat)[Int.toNat i]? with
          | some x2 => (match (Nat.beq 30 30 && decide ((zs : List Nat).length + ([fop .mul .f32 x2 (fop .sub .f32 1065353216 (fop .quo .f32 (fint .f32 i) (fint .f32 ((xs.length : Int)))))] : List Nat).length ≤ 1099511627776) : Bool) with
            | true => iterK a15 [0, 1, 6, 7] [6] (codeK T4 a15 l15 Try.f15.ntmps (loopAt Try.f15 0)) m ⟨[(0, .fv (.vw (some 0) ⟨.f32, xs⟩)), (1, .fv (.el (.sc (.int .i64 d)))), (6, .fv (.own 0)), (7, .fv (.el (.sc (.int .i64 (IntKind.i64.wrap (i + 1))))))], [some ⟨30, ⟨.f32, (zs : List Nat) ++ ([fop .mul .f32 x2 (fop .sub .f32 1065353216 (fop .quo .f32 (fint .f32 i) (fint .f32 ((xs.length : Int)))))])⟩⟩]⟩ k
            | false => none)
          | none => none)
        | false => none))
    | false => (match ((d : Int) == 2 : Bool) with
      | true => (match (decide (0 ≤ (i : Int) ∧ (i : Int) < (xs.length : Int)) && true : Bool) with
        | true => (match (xs : List Nat)[Int.toNat i]? with
          | some x3 => (match (Nat.beq 30 30 && decide ((zs : List Nat).length + ([fop .mul .f32 x3 (fop .mul .f32 1056964608 (fop .add .f32 1065353216 (phRe (wid (fop .mul .f32 1056964608 (fop .quo .f32 (fint .f32 i) (fint .f32 ((xs.length : Int)))))))))] : List Nat).length ≤ 1099511627776) : Bool) with
            | true => iterK a15 [0, 1, 6, 7] [6] (codeK T4 a15 l15 Try.f15.ntmps (loopAt Try.f15 0)) m ⟨[(0, .fv (.vw (some 0) ⟨.f32, xs⟩)), (1, .fv (.el (.sc (.int .i64 d)))), (6, .fv (.own 0)), (7, .fv (.el (.sc (.int .i64 (IntKind.i64.wrap (i + 1))))))], [some ⟨30, ⟨.f32, (zs : List Nat) ++ ([fop .mul .f32 x3 (fop .mul .f32 1056964608 (fop .add .f32 1065353216 (phRe (wid (fop .mul .f32 1056964608 (fop .quo .f32 (fint .f32 i) (fint .f32 ((xs.length : Int)))))))))])⟩⟩]⟩ k
            | false => none)
          | none => none)
        | false => none)
      | false => (match (decide (0 ≤ (i : Int) ∧ (i : Int) < (xs.length : Int)) && true : Bool) with
        | true => (match (xs : List Nat)[Int.toNat i]? with
          | some x4 => (match (Nat.beq 30 30 && decide ((zs : List Nat).length + ([fop .mul .f32 x4 1065353216] : List Nat).length ≤ 1099511627776) : Bool) with
            | true => iterK a15 [0, 1, 6, 7] [6] (codeK T4 a15 l15 Try.f15.ntmps (loopAt Try.f15 0)) m ⟨[(0, .fv (.vw (some 0) ⟨.f32, xs⟩)), (1, .fv (.el (.sc (.int .i64 d)))), (6, .fv (.own 0)), (7, .fv (.el (.sc (.int .i64 (IntKind.i64.wrap (i + 1))))))], [some ⟨30, ⟨.f32, (zs : List Nat) ++ ([fop .mul .f32 x4 1065353216])⟩⟩]⟩ k
            | false => none)
          | none => none)
        | false => none)))
  | false => k (.exit 0) ⟨[(6, .fv (.own 0))], [some ⟨30, ⟨.f32, zs⟩⟩]⟩) := by kernel_rfl
theorem ind15 (xs : List Nat) (d : Int) (hx : (Nat.ble xs.length big) = true) (k : Ex → St → R) : ∀ (m j : Nat) (zs : List Nat), zs.length + m ≤ 1099511627776 → 0 ≤ j → j + m = xs.length → iterK a15 [0, 1, 6, 7] [6] (codeK T4 a15 l15 Try.f15.ntmps (loopAt Try.f15 0)) (m + 1) ⟨[(0, .fv (.vw (some 0) ⟨.f32, xs⟩)), (1, .fv (.el (.sc (.int .i64 d)))), (6, .fv (.own 0)), (7, .fv (.el (.sc (.int .i64 (j : Int)))))], [some ⟨30, ⟨.f32, zs⟩⟩]⟩ k =
    k (.exit 0) ⟨[(6, .fv (.own 0))], [some ⟨30, ⟨.f32, rep (fun j zs => zs ++ [softAt xs (xs.length : Int) d j]) m j (zs : (List Nat))⟩⟩]⟩ := by
  intro m
  induction m with
  | zero =>
    intro j zs hs0 hlo hj
    have hx_ := big_le hx
    have h1 : ¬ (((j : Int) < (xs.length : Int))) := by omega
    rw [st15]
    simp only [h1, rep, decide_false, List.length_singleton] <;> rfl
  | succ m ih =>
    intro j zs hs0 hlo hj
    have hx_ := big_le hx
    have h1 : ((j : Int) < (xs.length : Int)) := by omega
    have hbq : Nat.beq 30 30 = true := rfl
    have hzl : zs.length + 1 ≤ 1099511627776 := by omega
    have xb : (0 : Int) ≤ ((j : Nat) : Int) ∧ ((j : Nat) : Int) < (xs.length : Int) := by omega
    have xq : xs[Int.toNat ((j : Nat) : Int)]? = some (xs.getD (j) 0) := getI (by omega)
    have xp : xs[j]? = some (xs.getD (j) 0) := getI2 (by omega)
    have wn : IntKind.i64.wrap ((j : Int) + 1) = ((j + 1 : Nat) : Int) := wrapN (by omega) (by omega)
    rw [st15]
    simp only [h1, wn, hbq, hzl, xb, xq, xp, and_self, decide_true, Bool.and_true, Int.le_refl, List.length_singleton]
    refine Eq.trans ?_ (ih (j + 1) (zs ++ [softAt xs (xs.length : Int) d j]) (by simp; omega) (by omega) (by omega))
    unfold softAt softBy
    cases g1 : (d == 1 : Bool) with
    | true =>
      have g2 : (d == 2 : Bool) = false := by
        have := eq_of_beq g1
        subst this
        rfl
      simp only [g1, g2, cond_true, cond_false, hzl, List.length_singleton, decide_true, Bool.and_true]
      try rfl
    | false =>
      cases g2 : (d == 2 : Bool) with
      | true =>
        simp only [g1, g2, cond_true, cond_false, hzl, List.length_singleton, decide_true, Bool.and_true]
        try rfl
      | false =>
        simp only [g1, g2, cond_true, cond_false, hzl, List.length_singleton, decide_true, Bool.and_true]
        try rfl

theorem lk15 : LOK T4 a15 l15 Try.f15.ntmps (loopAt Try.f15 0) := by
  intro ins outs hA s k out h
  have hA' : ([0, 1, 6, 7], [6]) = (ins, outs) := Option.some.inj ((show a15.lp (firstRegion (loopAt Try.f15 0)) = some ([0, 1, 6, 7], [6]) by kernel_rfl).symm.trans hA)
  cases hA'
  have hk : firstRegion (loopAt Try.f15 0) = 5 := by kernel_rfl
  rw [hk] at h
  change lp15 s k = some out at h
  unfold lp15 at h
  split at h
  · rename_i xs d i zs
    cases hg : (decide (i = 0) && (Nat.ble xs.length big && Nat.ble (zs.length + xs.length) big)) with
    | false => rw [hg] at h; cases h
    | true =>
      rw [hg] at h
      simp only [Bool.and_eq_true, decide_eq_true_eq] at hg
      obtain ⟨rfl, hx, gs0⟩ := hg
      refine ⟨(xs.length) + 1, ?_⟩
      have hx_ := big_le hx
      have gs0_ := big_le gs0
      exact (ind15 xs d hx k (xs.length) 0 zs (by omega) (by omega) (by omega)).trans h
  · cases h
theorem e15 (xs : List Nat) (d : Int) : runFn T4 a15 l15 Try.f15 [.vw none ⟨.f32, xs⟩, .el (.sc (.int .i64 d))] = (match (!(bins xs 2) : Bool) with
  | true => some ⟨[.nil, .el (.sc (.bo false))], none⟩
  | false => (match (!(within d 0 2) : Bool) with
    | true => some ⟨[.nil, .el (.sc (.bo false))], none⟩
    | false => (match ((decide (0 = 0) && (Nat.ble xs.length big && Nat.ble (([] : List Nat).length + xs.length) big)) : Bool) with
      | true => (match (Nat.ble (rep (fun j zs => zs ++ [softAt xs (xs.length : Int) d j]) (xs.length) 0 (([] : List Nat) : (List Nat))).length big : Bool) with
        | true => (match ((rep (fun j zs => zs ++ [softAt xs (xs.length : Int) d j]) (xs.length) 0 (([] : List Nat) : (List Nat))).all fin : Bool) with
          | true => some ⟨[.fresh 30 ⟨.f32, rep (fun j zs => zs ++ [softAt xs (xs.length : Int) d j]) (xs.length) 0 (([] : List Nat) : (List Nat))⟩, .el (.sc (.bo true))], none⟩
          | false => some ⟨[.nil, .el (.sc (.bo false))], none⟩)
        | false => none)
      | false => none))) := by kernel_rfl
theorem s15 (xs : List Nat) (d : Int) : runFn T4 a15 l15 Try.f15 [.vw none ⟨.f32, xs⟩, .el (.sc (.int .i64 d))] = (match (softOk xs d : Bool) with
  | true => some ⟨[.fresh 30 ⟨.f32, softX xs d⟩, .el (.sc (.bo true))], none⟩
  | false => some ⟨[.nil, .el (.sc (.bo false))], none⟩) := by
  rw [e15]
  unfold softOk
  cases h1 : bins xs 2 with
  | false => simp
  | true =>
    cases h2 : within d 0 2 with
    | false => simp
    | true =>
      have h1b := h1
      unfold bins at h1b
      simp only [Bool.and_eq_true, decide_eq_true_eq] at h1b
      have hx : Nat.ble xs.length big = true := big_of (by omega)
      have hz : Nat.ble (0 + xs.length) big = true := big_of (by omega)
      have hr : Nat.ble (softX xs d).length big = true := big_of (by rw [softX_len]; omega)
      have e := rep_map (softAt xs (xs.length : Int) d) xs.length 0 []
      have e2 : (fromTo 0 xs.length).map (softAt xs (xs.length : Int) d) = softX xs d := rfl
      rw [List.nil_append, e2] at e
      simp only [hx, hz, e, hr, List.length_nil, decide_true, Bool.and_self, Bool.not_true, Bool.true_and]
      try (cases h6 : (softX xs d).all fin <;> simp [h6])
theorem c15 (xs : List Nat) (d : Int) (k : List RV → R) (out : Out) (h : k [.fresh 30 ⟨.f32, orNil (softOk xs d) (softX xs d)⟩, .el (.sc (.bo (softOk xs d)))] = some out) : ∃ rs, Real Try.prog 15 ∧ COK Try.prog 15 [.vw none ⟨.f32, xs⟩, .el (.sc (.int .i64 d))] rs ∧ k rs = some out := by
  cases g0 : (softOk xs d : Bool) with
  | true =>
    rw [g0] at h
    exact ⟨_, real Try.func15 (by kernel_rfl), fn_ok tok4 (A := a15) (L := l15) (r := none) Try.func15 (by kernel_rfl) (by kernel_rfl) (loops1 (by kernel_rfl) lk15) (by rw [s15, g0]; rfl), h⟩
  | false =>
    rw [g0] at h
    exact ⟨_, real Try.func15 (by kernel_rfl), COK.nil (fn_ok tok4 (A := a15) (L := l15) (r := none) Try.func15 (by kernel_rfl) (by kernel_rfl) (loops1 (by kernel_rfl) lk15) (by rw [s15, g0] <;> rfl)), h⟩

/-! impl.PhasorOf -/
def a81 : Ann := ann [(7, [4, 5], [4, 5])] [2] 0
def lp81 : St → (Ex → St → R) → R := fun s k => match s with
  | ⟨[(4, .fv (.el (.sc (.fl .f64 f)))), (5, .fv (.el (.sc (.int .i64 q))))], []⟩ => (match (decide (q = 0) && !fcmp .geq .f64 (qrun 4 f 0).1 4598175219545276416 : Bool) with
    | true => k (.exit 1) ⟨[(4, .fv (.el (.sc (.fl .f64 ((qrun 4 f 0).1))))), (5, .fv (.el (.sc (.int .i64 ((qrun 4 f 0).2)))))], []⟩
    | false => none)
  | _ => none
def l81 : Loops := fun key s k => bif Nat.beq key 7 then lp81 s k else none
theorem st81 (f : Nat) (q : Int) (m : Nat) (k : Ex → St → R) : iterK a81 [4, 5] [4, 5] (codeK T4 a81 l81 Try.f81.ntmps (loopAt Try.f81 0)) (m + 1) ⟨[(4, .fv (.el (.sc (.fl .f64 f)))), (5, .fv (.el (.sc (.int .i64 q))))], []⟩ k = (match (fcmp .geq .f64 f 4598175219545276416 : Bool) with
  | true => iterK a81 [4, 5] [4, 5] (codeK T4 a81 l81 Try.f81.ntmps (loopAt Try.f81 0)) m ⟨[(4, .fv (.el (.sc (.fl .f64 (fop .sub .f64 f 4598175219545276416))))), (5, .fv (.el (.sc (.int .i64 (IntKind.i64.wrap (q + 1))))))], []⟩ k
  | false => k (.exit 1) ⟨[(4, .fv (.el (.sc (.fl .f64 f)))), (5, .fv (.el (.sc (.int .i64 q))))], []⟩) := by kernel_rfl
theorem ind81 (k : Ex → St → R) : ∀ (m f : Nat) (q : Int), 0 ≤ q → q + m ≤ 100 → fcmp .geq .f64 (qrun m f q).1 4598175219545276416 = false → iterK a81 [4, 5] [4, 5] (codeK T4 a81 l81 Try.f81.ntmps (loopAt Try.f81 0)) (m + 1) ⟨[(4, .fv (.el (.sc (.fl .f64 f)))), (5, .fv (.el (.sc (.int .i64 q))))], []⟩ k = k (.exit 1) ⟨[(4, .fv (.el (.sc (.fl .f64 ((qrun m f q).1))))), (5, .fv (.el (.sc (.int .i64 ((qrun m f q).2)))))], []⟩ := by
  intro m
  induction m with
  | zero =>
    intro f q h0 hq hd
    rw [st81]
    have hd2 : fcmp .geq .f64 f 4598175219545276416 = false := hd
    rw [hd2]
    rfl
  | succ m ih =>
    intro f q h0 hq hd
    have hw : IntKind.i64.wrap (q + 1) = q + 1 := wrap64 (by omega) (by omega)
    rw [st81, hw]
    unfold qrun at hd ⊢
    cases hg : fcmp .geq .f64 f 4598175219545276416 with
    | true =>
      rw [hg] at hd
      exact ih _ _ (by omega) (by omega) hd
    | false => rfl

theorem lk81 : LOK T4 a81 l81 Try.f81.ntmps (loopAt Try.f81 0) := by
  intro ins outs hA s k out h
  have hA' : ([4, 5], [4, 5]) = (ins, outs) := Option.some.inj ((show a81.lp (firstRegion (loopAt Try.f81 0)) = some ([4, 5], [4, 5]) by kernel_rfl).symm.trans hA)
  cases hA'
  have hk : firstRegion (loopAt Try.f81 0) = 7 := by kernel_rfl
  rw [hk] at h
  change lp81 s k = some out at h
  unfold lp81 at h
  split at h
  · rename_i f q
    cases hg : (decide (q = 0) && !fcmp .geq .f64 (qrun 4 f 0).1 4598175219545276416) with
    | false => rw [hg] at h; cases h
    | true =>
      rw [hg] at h
      simp only [Bool.and_eq_true, decide_eq_true_eq] at hg
      obtain ⟨rfl, hd⟩ := hg
      refine ⟨5, ?_⟩
      exact (ind81 k 4 f 0 (by omega) (by omega) (by rw [Bool.not_eq_true'] at hd; exact hd)).trans h
  · cases h
theorem e81 (t : Nat) : runFn T4 a81 l81 Try.f81 [.el (.sc (.fl .f64 t))] = (match fconv .f64 .f32 (nanOf .f64) with
  | some r1 => (match (fcmp .neq .f64 (fop .sub .f64 t t) 0 : Bool) with
    | true => some ⟨[.el (.sc (.cx .f32 r1 r1))], none⟩
    | false => (match (!isN .f64 t : Bool) with
      | true => (match (fcmp .geq .f64 (fabs t) big52 : Bool) with
        | true => some ⟨[.el (.sc (.cx .f32 1065353216 0))], none⟩
        | false => (match (decide (0 = 0) && !fcmp .geq .f64 (qrun 4 (part t) 0).1 4598175219545276416 : Bool) with
          | true => (match (((qrun 4 (part t) 0).2 : Int) == 1 : Bool) with
            | true => (match fconv .f64 .f32 (fop .sub .f64 0 (sinCore (part ((qrun 4 (part t) 0).1)))) with
              | some r2 => (match fconv .f64 .f32 (sinCore (part (fop .sub .f64 4598175219545276416 ((qrun 4 (part t) 0).1)))) with
                | some r3 => some ⟨[.el (.sc (.cx .f32 r2 r3))], none⟩
                | none => none)
              | none => none)
            | false => (match (((qrun 4 (part t) 0).2 : Int) == 2 : Bool) with
              | true => (match fconv .f64 .f32 (fop .sub .f64 0 (sinCore (part (fop .sub .f64 4598175219545276416 ((qrun 4 (part t) 0).1))))) with
                | some r4 => (match fconv .f64 .f32 (fop .sub .f64 0 (sinCore (part ((qrun 4 (part t) 0).1)))) with
                  | some r5 => some ⟨[.el (.sc (.cx .f32 r4 r5))], none⟩
                  | none => none)
                | none => none)
              | false => (match (((qrun 4 (part t) 0).2 : Int) == 3 : Bool) with
                | true => (match fconv .f64 .f32 (sinCore (part ((qrun 4 (part t) 0).1))) with
                  | some r6 => (match fconv .f64 .f32 (fop .sub .f64 0 (sinCore (part (fop .sub .f64 4598175219545276416 ((qrun 4 (part t) 0).1))))) with
                    | some r7 => some ⟨[.el (.sc (.cx .f32 r6 r7))], none⟩
                    | none => none)
                  | none => none)
                | false => (match fconv .f64 .f32 (sinCore (part (fop .sub .f64 4598175219545276416 ((qrun 4 (part t) 0).1)))) with
                  | some r8 => (match fconv .f64 .f32 (sinCore (part ((qrun 4 (part t) 0).1))) with
                    | some r9 => some ⟨[.el (.sc (.cx .f32 r8 r9))], none⟩
                    | none => none)
                  | none => none))))
          | false => none))
      | false => none))
  | none => none) := by kernel_rfl
theorem s81 (t : Nat) : runFn T4 a81 l81 Try.f81 [.el (.sc (.fl .f64 t))] = some ⟨[.el (.sc (.cx .f32 (phRe t) (phIm t)))], none⟩ := by
  rw [e81]
  unfold phRe phIm
  have hneq : fcmp .neq .f64 (fop .sub .f64 t t) 0 = !isNum .f64 t := sub_self_fin t
  rw [hneq]
  cases h : isNum .f64 t with
  | false => rfl
  | true =>
    have hN := isNum_notN h
    have ha := huge_abs h
    have hnan : fconv .f64 .f32 (nanOf .f64) = some (nanOf .f32) := narrow_nan (isN_nanOf .f64)
    rw [ha, hN]
    cases hh : huge t with
    | true => simp [hnan]
    | false =>
      obtain ⟨r3, s1, c1, s2, s3, c2, c3⟩ := ph_ok h hh
      have ns := nar_ok s2 s3
      have nc := nar_ok c2 c3
      have eF : (qrun 4 (part t) 0).1 = phF t := rfl
      have eQ : (qrun 4 (part t) 0).2 = phQ t := rfl
      have eC : sinCore (part (fop .sub .f64 4598175219545276416 (phF t))) = phC t := rfl
      have eS : sinCore (part (phF t)) = phS t := rfl
      rw [eF] at r3
      simp only [hnan, eF, eQ, eC, eS, r3, ns.1, ns.2, nc.1, nc.2, decide_true, Bool.not_false, Bool.not_true, Bool.and_self, cond_false, cond_true]
      cases phQ t == 1 <;> cases phQ t == 2 <;> cases phQ t == 3 <;> rfl
theorem c81 (t : Nat) (k : List RV → R) (out : Out) (h : k [.el (.sc (.cx .f32 (phRe t) (phIm t)))] = some out) : ∃ rs, Real Try.prog 81 ∧ COK Try.prog 81 [.el (.sc (.fl .f64 t))] rs ∧ k rs = some out := by
  exact ⟨_, real Try.func81 (by kernel_rfl), fn_ok tok4 (A := a81) (L := l81) (r := none) Try.func81 (by kernel_rfl) (by kernel_rfl) (loops1 (by kernel_rfl) lk81) (by rw [s81]), h⟩

/-! impl.areFinite -/
theorem e85 (xs : List Nat) : runFn T4 none0 noL Try.f85 [.vw none ⟨.f32, xs⟩] = (match (Nat.ble xs.length big : Bool) with
  | true => some ⟨[.el (.sc (.bo (!(xs.any notFin))))], none⟩
  | false => none) := by kernel_rfl
theorem s85 (xs : List Nat) : runFn T4 none0 noL Try.f85 [.vw none ⟨.f32, xs⟩] = (match (Nat.ble xs.length big : Bool) with
  | true => some ⟨[.el (.sc (.bo (xs.all fin)))], none⟩
  | false => none) := by
  rw [e85]
  rw [notFin_fun, not_any]
theorem c85 (xs : List Nat) (k : List RV → R) (out : Out) (h : (match (Nat.ble xs.length big : Bool) with
  | true => k [.el (.sc (.bo (xs.all fin)))]
  | false => none) = some out) : ∃ rs, Real Try.prog 85 ∧ COK Try.prog 85 [.vw none ⟨.f32, xs⟩] rs ∧ k rs = some out := by
  cases g0 : (Nat.ble xs.length big : Bool) with
  | true =>
    rw [g0] at h
    exact ⟨_, real Try.func85 (by kernel_rfl), fn_ok tok4 (A := none0) (L := noL) (r := none) Try.func85 (by kernel_rfl) (by kernel_rfl) (loops0 (by kernel_rfl)) (by rw [s85, g0]), h⟩
  | false =>
    rw [g0] at h
    cases h

def S5 : SFn := fun f args k => match f, args with
  | 15, [.vw none ⟨.f32, xs⟩, .el (.sc (.int .i64 d))] => k [.fresh 30 ⟨.f32, orNil (softOk xs d) (softX xs d)⟩, .el (.sc (.bo (softOk xs d)))]
  | 81, [.el (.sc (.fl .f64 t))] => k [.el (.sc (.cx .f32 (phRe t) (phIm t)))]
  | 85, [.vw none ⟨.f32, xs⟩] => (match (Nat.ble xs.length big : Bool) with
    | true => k [.el (.sc (.bo (xs.all fin)))]
    | false => none)
  | _, _ => S4 f args k
abbrev M5 : MFn := M4
def T5 : TT := tab.T S5 muts M5
theorem tok5 : TOK Try.prog T5 := by
  refine (tab_ok tabok).tok (fun f args k out h => ?_) (fun f vec args k out h => ?_)
  · change S5 f args k = some out at h
    unfold S5 at h
    split at h
    · exact (fun k out h => cok_call (c15 _ _ k out h)) k out h
    · exact (fun k out h => cok_call (c81 _ k out h)) k out h
    · exact (fun k out h => cok_call (c85 _ k out h)) k out h
    · exact tok4.S f args k out h
  · exact tok4.M f vec args k out h

end Go.Sm.Ytdeplgocckdbiaa
