/- What the functions hand back: level 4. -/
import Derived.Test.YtdeplgocckdbiaaD4
namespace Go.Sm.Ytdeplgocckdbiaa
open Go Go.Sm Go.RowKit Go.Proofs

/-! spec.TurnVector -/
def a30 : Ann := ann [(11, [0, 9, 10, 11, 12, 13], [12])] [6, 7] 0
def lp30 : St → (Ex → St → R) → R := fun s k => match s with
  | ⟨[(0, .fv (.vw (some 0) ⟨.f32, vs⟩)), (9, .fv (.own 0)), (10, .fv (.el (.sc (.cx .f32 re im)))), (11, .fv (.el (.sc (.fl .f32 d)))), (12, .fv (.own 1)), (13, .fv (.el (.sc (.int .i64 i))))], [some ⟨30, ⟨.f32, us⟩⟩, some ⟨30, ⟨.f32, zs⟩⟩]⟩ => (match ((decide (i = 0) && (Nat.ble 3 (us : List Nat).length && (Nat.ble 3 vs.length && Nat.ble ((zs : List Nat).length + 3) big))) : Bool) with
    | true => k (.exit 0) ⟨[(12, .fv (.own 0))], [some ⟨30, ⟨.f32, rep (fun j zs => zs ++ [tvAt (us : List Nat) vs d re im j]) (3) 0 ((zs : List Nat) : (List Nat))⟩⟩]⟩
    | false => none)
  | _ => none
def l30 : Loops := fun key s k => bif Nat.beq key 11 then lp30 s k else none
theorem st30 (vs : List Nat) (re : Nat) (im : Nat) (d : Nat) (i : Int) (us : List Nat) (zs : List Nat) (m : Nat) (k : Ex → St → R) : iterK a30 [0, 9, 10, 11, 12, 13] [12] (codeK T4 a30 l30 Try.f30.ntmps (loopAt Try.f30 0)) (m + 1) ⟨[(0, .fv (.vw (some 0) ⟨.f32, vs⟩)), (9, .fv (.own 0)), (10, .fv (.el (.sc (.cx .f32 re im)))), (11, .fv (.el (.sc (.fl .f32 d)))), (12, .fv (.own 1)), (13, .fv (.el (.sc (.int .i64 i))))], [some ⟨30, ⟨.f32, us⟩⟩, some ⟨30, ⟨.f32, zs⟩⟩]⟩ k = (match (decide ((i : Int) < 3) : Bool) with
  | true => (match (decide (3 = 0) : Bool) with
    | true => none
    | false => (match (decide (3 = 0) : Bool) with
      | true => none
      | false => (match (decide (0 ≤ ((IntKind.i64.wrap (i + 1)).tmod 3 : Int) ∧ ((IntKind.i64.wrap (i + 1)).tmod 3 : Int) < (us.length : Int)) && true : Bool) with
        | true => (match (us : List Nat)[Int.toNat ((IntKind.i64.wrap (i + 1)).tmod 3)]? with
          | some x1 => (match (decide (0 ≤ ((IntKind.i64.wrap (i + 2)).tmod 3 : Int) ∧ ((IntKind.i64.wrap (i + 2)).tmod 3 : Int) < (vs.length : Int)) && true : Bool) with
            | true => (match (vs : List Nat)[Int.toNat ((IntKind.i64.wrap (i + 2)).tmod 3)]? with
              | some x2 => (match (decide (0 ≤ ((IntKind.i64.wrap (i + 2)).tmod 3 : Int) ∧ ((IntKind.i64.wrap (i + 2)).tmod 3 : Int) < (us.length : Int)) && true : Bool) with
                | true => (match (us : List Nat)[Int.toNat ((IntKind.i64.wrap (i + 2)).tmod 3)]? with
                  | some x3 => (match (decide (0 ≤ ((IntKind.i64.wrap (i + 1)).tmod 3 : Int) ∧ ((IntKind.i64.wrap (i + 1)).tmod 3 : Int) < (vs.length : Int)) && true : Bool) with
                    | true => (match (vs : List Nat)[Int.toNat ((IntKind.i64.wrap (i + 1)).tmod 3)]? with
                      | some x4 => (match (decide (0 ≤ (i : Int) ∧ (i : Int) < (vs.length : Int)) && true : Bool) with
                        | true => (match (vs : List Nat)[Int.toNat i]? with
                          | some x5 => (match (decide (0 ≤ (i : Int) ∧ (i : Int) < (us.length : Int)) && true : Bool) with
                            | true => (match (us : List Nat)[Int.toNat i]? with
                              | some x6 => (match (Nat.beq 30 30 && decide ((zs : List Nat).length + ([fop .add .f32 (fop .add .f32 (fop .mul .f32 x5 re) (fop .mul .f32 (fop .sub .f32 (fop .mul .f32 x1 x2) (fop .mul .f32 x3 x4)) im)) (fop .mul .f32 (fop .mul .f32 x6 d) (fop .sub .f32 1065353216 re))] : List Nat).length ≤ 1099511627776) : Bool) with
                                | true => iterK a30 [0, 9, 10, 11, 12, 13] [12] (codeK T4 a30 l30 Try.f30.ntmps (loopAt Try.f30 0)) m ⟨[(0, .fv (.vw (some 0) ⟨.f32, vs⟩)), (9, .fv (.own 0)), (10, .fv (.el (.sc (.cx .f32 re im)))), (11, .fv (.el (.sc (.fl .f32 d)))), (12, .fv (.own 1)), (13, .fv (.el (.sc (.int .i64 (IntKind.i64.wrap (i + 1))))))], [some ⟨30, ⟨.f32, us⟩⟩, some ⟨30, ⟨.f32, (zs : List Nat) ++ ([fop .add .f32 (fop .add .f32 (fop .mul .f32 x5 re) (fop .mul .f32 (fop .sub .f32 (fop .mul .f32 x1 x2) (fop .mul .f32 x3 x4)) im)) (fop .mul .f32 (fop .mul .f32 x6 d) (fop .sub .f32 1065353216 re))])⟩⟩]⟩ k
                                | false => none)
                              | none => none)
                            | false => none)
                          | none => none)
                        | false => none)
                      | none => none)
                    | false => none)
                  | none => none)
                | false => none)
              | none => none)
            | false => none)
          | none => none)
        | false => none)))
  | false => k (.exit 0) ⟨[(12, .fv (.own 0))], [some ⟨30, ⟨.f32, zs⟩⟩]⟩) := by kernel_rfl
theorem ind30 (vs : List Nat) (re : Nat) (im : Nat) (d : Nat) (us : List Nat) (hu : (Nat.ble 3 us.length) = true) (hv : (Nat.ble 3 vs.length) = true) (k : Ex → St → R) : ∀ (m j : Nat) (zs : List Nat), zs.length + m ≤ 1099511627776 → 0 ≤ j → j + m = 3 → iterK a30 [0, 9, 10, 11, 12, 13] [12] (codeK T4 a30 l30 Try.f30.ntmps (loopAt Try.f30 0)) (m + 1) ⟨[(0, .fv (.vw (some 0) ⟨.f32, vs⟩)), (9, .fv (.own 0)), (10, .fv (.el (.sc (.cx .f32 re im)))), (11, .fv (.el (.sc (.fl .f32 d)))), (12, .fv (.own 1)), (13, .fv (.el (.sc (.int .i64 (j : Int)))))], [some ⟨30, ⟨.f32, us⟩⟩, some ⟨30, ⟨.f32, zs⟩⟩]⟩ k =
    k (.exit 0) ⟨[(12, .fv (.own 0))], [some ⟨30, ⟨.f32, rep (fun j zs => zs ++ [tvAt us vs d re im j]) m j (zs : (List Nat))⟩⟩]⟩ := by
  intro m
  induction m with
  | zero =>
    intro j zs hs0 hlo hj
    have hu_ := Nat.le_of_ble_eq_true hu
    have hv_ := Nat.le_of_ble_eq_true hv
    have h1 : ¬ ((j : Int) < 3) := by omega
    rw [st30]
    simp only [h1, rep, decide_false, List.length_singleton] <;> rfl
  | succ m ih =>
    intro j zs hs0 hlo hj
    have hu_ := Nat.le_of_ble_eq_true hu
    have hv_ := Nat.le_of_ble_eq_true hv
    have h1 : (j : Int) < 3 := by omega
    have hbq : Nat.beq 30 30 = true := rfl
    have hzl : zs.length + 1 ≤ 1099511627776 := by omega
    have k1 : ((j + 1 : Nat) : Int).tmod 3 = (((j + 1) % 3 : Nat) : Int) := by have h : j = 0 ∨ j = 1 ∨ j = 2 := (by omega); rcases h with h | h | h <;> subst h <;> decide
    have w2 : IntKind.i64.wrap ((j : Int) + 2) = ((j + 2 : Nat) : Int) := wrapN (by omega) (by omega)
    have k2 : ((j + 2 : Nat) : Int).tmod 3 = (((j + 2) % 3 : Nat) : Int) := by have h : j = 0 ∨ j = 1 ∨ j = 2 := (by omega); rcases h with h | h | h <;> subst h <;> decide
    have m1 : (j + 1) % 3 < 3 := Nat.mod_lt _ (by decide)
    have m2 : (j + 2) % 3 < 3 := Nat.mod_lt _ (by decide)
    have d3 : decide ((3 : Int) = 0) = false := rfl
    have ab : (0 : Int) ≤ ((j : Nat) : Int) ∧ ((j : Nat) : Int) < (us.length : Int) := by omega
    have aq : us[Int.toNat ((j : Nat) : Int)]? = some (us.getD (j) 0) := getI (by omega)
    have ap : us[j]? = some (us.getD (j) 0) := getI2 (by omega)
    have bb : (0 : Int) ≤ (((j + 1) % 3 : Nat) : Int) ∧ (((j + 1) % 3 : Nat) : Int) < (us.length : Int) := by omega
    have bq : us[Int.toNat (((j + 1) % 3 : Nat) : Int)]? = some (us.getD ((j + 1) % 3) 0) := getI (by omega)
    have bp : us[(j + 1) % 3]? = some (us.getD ((j + 1) % 3) 0) := getI2 (by omega)
    have cb : (0 : Int) ≤ (((j + 2) % 3 : Nat) : Int) ∧ (((j + 2) % 3 : Nat) : Int) < (us.length : Int) := by omega
    have cq : us[Int.toNat (((j + 2) % 3 : Nat) : Int)]? = some (us.getD ((j + 2) % 3) 0) := getI (by omega)
    have cp : us[(j + 2) % 3]? = some (us.getD ((j + 2) % 3) 0) := getI2 (by omega)
    have eb : (0 : Int) ≤ ((j : Nat) : Int) ∧ ((j : Nat) : Int) < (vs.length : Int) := by omega
    have eq : vs[Int.toNat ((j : Nat) : Int)]? = some (vs.getD (j) 0) := getI (by omega)
    have ep : vs[j]? = some (vs.getD (j) 0) := getI2 (by omega)
    have fb : (0 : Int) ≤ (((j + 1) % 3 : Nat) : Int) ∧ (((j + 1) % 3 : Nat) : Int) < (vs.length : Int) := by omega
    have fq : vs[Int.toNat (((j + 1) % 3 : Nat) : Int)]? = some (vs.getD ((j + 1) % 3) 0) := getI (by omega)
    have fp : vs[(j + 1) % 3]? = some (vs.getD ((j + 1) % 3) 0) := getI2 (by omega)
    have gb : (0 : Int) ≤ (((j + 2) % 3 : Nat) : Int) ∧ (((j + 2) % 3 : Nat) : Int) < (vs.length : Int) := by omega
    have gq : vs[Int.toNat (((j + 2) % 3 : Nat) : Int)]? = some (vs.getD ((j + 2) % 3) 0) := getI (by omega)
    have gp : vs[(j + 2) % 3]? = some (vs.getD ((j + 2) % 3) 0) := getI2 (by omega)
    have wn : IntKind.i64.wrap ((j : Int) + 1) = ((j + 1 : Nat) : Int) := wrapN (by omega) (by omega)
    rw [st30]
    simp only [h1, wn, hbq, hzl, k1, w2, k2, m1, m2, d3, ab, aq, ap, bb, bq, bp, cb, cq, cp, eb, eq, ep, fb, fq, fp, gb, gq, gp, and_self, decide_true, Bool.and_true, Int.le_refl, List.length_singleton]
    exact ih (j + 1) _ (by simp; omega) (by omega) (by omega)

theorem lk30 : LOK T4 a30 l30 Try.f30.ntmps (loopAt Try.f30 0) := by
  intro ins outs hA s k out h
  have hA' : ([0, 9, 10, 11, 12, 13], [12]) = (ins, outs) := Option.some.inj ((show a30.lp (firstRegion (loopAt Try.f30 0)) = some ([0, 9, 10, 11, 12, 13], [12]) by kernel_rfl).symm.trans hA)
  cases hA'
  have hk : firstRegion (loopAt Try.f30 0) = 11 := by kernel_rfl
  rw [hk] at h
  change lp30 s k = some out at h
  unfold lp30 at h
  split at h
  · rename_i vs re im d i us zs
    cases hg : (decide (i = 0) && (Nat.ble 3 us.length && (Nat.ble 3 vs.length && Nat.ble (zs.length + 3) big))) with
    | false => rw [hg] at h; cases h
    | true =>
      rw [hg] at h
      simp only [Bool.and_eq_true, decide_eq_true_eq] at hg
      obtain ⟨rfl, hu, hv, gs0⟩ := hg
      refine ⟨(3) + 1, ?_⟩
      have hu_ := Nat.le_of_ble_eq_true hu
      have hv_ := Nat.le_of_ble_eq_true hv
      have gs0_ := big_le gs0
      exact (ind30 vs re im d us hu hv k (3) 0 zs (by omega) (by omega) (by omega)).trans h
  · cases h
theorem e30 (vs : List Nat) (xs : List Nat) (t : Nat) : runFn T4 a30 l30 Try.f30 [.vw none ⟨.f32, vs⟩, .vw none ⟨.f32, xs⟩, .el (.sc (.fl .f32 t))] = (match (!(vec3 vs) : Bool) with
  | true => some ⟨[.nil, .el (.sc (.bo false))], none⟩
  | false => (match (!(vec3 xs) : Bool) with
    | true => some ⟨[.nil, .el (.sc (.bo false))], none⟩
    | false => (match (!(fin t) : Bool) with
      | true => some ⟨[.nil, .el (.sc (.bo false))], none⟩
      | false => (match (Nat.ble xs.length big && Nat.ble xs.length xs.length : Bool) with
        | true => (match (!(above (rootF (dot2 xs xs))) : Bool) with
          | true => some ⟨[.nil, .el (.sc (.bo false))], none⟩
          | false => (match (decide (0 ≤ (0 : Int) ∧ (0 : Int) < (xs.length : Int)) && true : Bool) with
            | true => (match (xs : List Nat)[Int.toNat 0]? with
              | some x1 => (match (decide (0 ≤ (1 : Int) ∧ (1 : Int) < (xs.length : Int)) && true : Bool) with
                | true => (match (xs : List Nat)[Int.toNat 1]? with
                  | some x2 => (match (decide (0 ≤ (2 : Int) ∧ (2 : Int) < (xs.length : Int)) && true : Bool) with
                    | true => (match (xs : List Nat)[Int.toNat 2]? with
                      | some x3 => (match (Nat.ble ([fop .quo .f32 x1 (rootF (dot2 xs xs)), fop .quo .f32 x2 (rootF (dot2 xs xs)), fop .quo .f32 x3 (rootF (dot2 xs xs))]).length big && Nat.ble ([fop .quo .f32 x1 (rootF (dot2 xs xs)), fop .quo .f32 x2 (rootF (dot2 xs xs)), fop .quo .f32 x3 (rootF (dot2 xs xs))]).length vs.length : Bool) with
                        | true => (match ((decide (0 = 0) && (Nat.ble 3 ([fop .quo .f32 x1 (rootF (dot2 xs xs)), fop .quo .f32 x2 (rootF (dot2 xs xs)), fop .quo .f32 x3 (rootF (dot2 xs xs))] : List Nat).length && (Nat.ble 3 vs.length && Nat.ble (([] : List Nat).length + 3) big))) : Bool) with
                          | true => (match (Nat.ble (rep (fun j zs => zs ++ [tvAt ([fop .quo .f32 x1 (rootF (dot2 xs xs)), fop .quo .f32 x2 (rootF (dot2 xs xs)), fop .quo .f32 x3 (rootF (dot2 xs xs))] : List Nat) vs (dot2 ([fop .quo .f32 x1 (rootF (dot2 xs xs)), fop .quo .f32 x2 (rootF (dot2 xs xs)), fop .quo .f32 x3 (rootF (dot2 xs xs))]) vs) (phRe (wid t)) (phIm (wid t)) j]) (3) 0 (([] : List Nat) : (List Nat))).length big : Bool) with
                            | true => (match ((rep (fun j zs => zs ++ [tvAt ([fop .quo .f32 x1 (rootF (dot2 xs xs)), fop .quo .f32 x2 (rootF (dot2 xs xs)), fop .quo .f32 x3 (rootF (dot2 xs xs))] : List Nat) vs (dot2 ([fop .quo .f32 x1 (rootF (dot2 xs xs)), fop .quo .f32 x2 (rootF (dot2 xs xs)), fop .quo .f32 x3 (rootF (dot2 xs xs))]) vs) (phRe (wid t)) (phIm (wid t)) j]) (3) 0 (([] : List Nat) : (List Nat))).all fin : Bool) with
                              | true => some ⟨[.fresh 30 ⟨.f32, rep (fun j zs => zs ++ [tvAt ([fop .quo .f32 x1 (rootF (dot2 xs xs)), fop .quo .f32 x2 (rootF (dot2 xs xs)), fop .quo .f32 x3 (rootF (dot2 xs xs))] : List Nat) vs (dot2 ([fop .quo .f32 x1 (rootF (dot2 xs xs)), fop .quo .f32 x2 (rootF (dot2 xs xs)), fop .quo .f32 x3 (rootF (dot2 xs xs))]) vs) (phRe (wid t)) (phIm (wid t)) j]) (3) 0 (([] : List Nat) : (List Nat))⟩, .el (.sc (.bo true))], none⟩
                              | false => some ⟨[.nil, .el (.sc (.bo false))], none⟩)
                            | false => none)
                          | false => none)
                        | false => none)
                      | none => none)
                    | false => none)
                  | none => none)
                | false => none)
              | none => none)
            | false => none))
        | false => none)))) := by kernel_rfl
theorem s30 (vs : List Nat) (xs : List Nat) (t : Nat) : runFn T4 a30 l30 Try.f30 [.vw none ⟨.f32, vs⟩, .vw none ⟨.f32, xs⟩, .el (.sc (.fl .f32 t))] = (match (tvOk vs xs t : Bool) with
  | true => some ⟨[.fresh 30 ⟨.f32, tvX vs xs t⟩, .el (.sc (.bo true))], none⟩
  | false => some ⟨[.nil, .el (.sc (.bo false))], none⟩) := by
  rw [e30]
  unfold tvOk
  cases h1 : vec3 vs with
  | false => simp
  | true =>
    cases h2 : vec3 xs with
    | false => simp
    | true =>
      cases h3 : fin t with
      | false => simp
      | true =>
        have b1 := h1
        unfold vec3 at b1
        rw [Bool.and_eq_true, decide_eq_true_eq] at b1
        have b2 := h2
        unfold vec3 at b2
        rw [Bool.and_eq_true, decide_eq_true_eq] at b2
        have hx : Nat.ble xs.length big = true := big_of (by omega)
        have hv : Nat.ble 3 vs.length = true := Nat.ble_eq_true_of_le (by omega)
        have hxx : Nat.ble xs.length xs.length = true := Nat.ble_eq_true_of_le (Nat.le_refl _)
        have hxv : Nat.ble xs.length vs.length = true := Nat.ble_eq_true_of_le (by omega)
        have hu : Nat.ble 3 (tvU xs (tvR xs)).length = true := Nat.ble_eq_true_of_le (by rw [tvU_len]; omega)
        have hub : Nat.ble (tvU xs (tvR xs)).length big = true := big_of (by rw [tvU_len]; omega)
        have huv : Nat.ble (tvU xs (tvR xs)).length vs.length = true := Nat.ble_eq_true_of_le (by rw [tvU_len]; omega)
        have hr : Nat.ble (tvX vs xs t).length big = true := big_of (by rw [tvX_len]; omega)
        have eR : rootF (dot2 xs xs) = tvR xs := rfl
        have e := rep_map (tvAt (tvU xs (tvR xs)) vs (dot2 (tvU xs (tvR xs)) vs) (phRe (wid t)) (phIm (wid t))) 3 0 []
        have e2 : (fromTo 0 3).map (tvAt (tvU xs (tvR xs)) vs (dot2 (tvU xs (tvR xs)) vs) (phRe (wid t)) (phIm (wid t))) = tvX vs xs t := rfl
        rw [List.nil_append, e2] at e
        have q0 : xs[Int.toNat 0]? = some (xs.getD 0 0) := getq (by omega)
        have q1 : xs[Int.toNat 1]? = some (xs.getD 1 0) := getq (by omega)
        have q2 : xs[Int.toNat 2]? = some (xs.getD 2 0) := getq (by omega)
        have p0 : (0 : Int) ≤ 0 ∧ (0 : Int) < (xs.length : Int) := by omega
        have p1 : (0 : Int) ≤ 1 ∧ (1 : Int) < (xs.length : Int) := by omega
        have p2 : (0 : Int) ≤ 2 ∧ (2 : Int) < (xs.length : Int) := by omega
        have eU : [fop .quo .f32 (xs.getD 0 0) (tvR xs), fop .quo .f32 (xs.getD 1 0) (tvR xs), fop .quo .f32 (xs.getD 2 0) (tvR xs)] = tvU xs (tvR xs) := by
          unfold tvU
          rw [b2.1]
          rfl
        simp only [hx, hxx, eR, p0, p1, p2, q0, q1, q2, eU, hu, hub, huv, hv, e, hr, List.length_nil, and_self, decide_true, Bool.and_self, Bool.not_true, Bool.true_and, Bool.and_true]
        cases h5 : above (tvR xs) with
        | false => simp
        | true => cases h6 : (tvX vs xs t).all fin <;> rfl
theorem c30 (vs : List Nat) (xs : List Nat) (t : Nat) (k : List RV → R) (out : Out) (h : k [.fresh 30 ⟨.f32, orNil (tvOk vs xs t) (tvX vs xs t)⟩, .el (.sc (.bo (tvOk vs xs t)))] = some out) : ∃ rs, Real Try.prog 30 ∧ COK Try.prog 30 [.vw none ⟨.f32, vs⟩, .vw none ⟨.f32, xs⟩, .el (.sc (.fl .f32 t))] rs ∧ k rs = some out := by
  cases g0 : (tvOk vs xs t : Bool) with
  | true =>
    rw [g0] at h
    exact ⟨_, real Try.func30 (by kernel_rfl), fn_ok tok4 (A := a30) (L := l30) (r := none) Try.func30 (by kernel_rfl) (by kernel_rfl) (loops1 (by kernel_rfl) lk30) (by rw [s30, g0]; rfl), h⟩
  | false =>
    rw [g0] at h
    exact ⟨_, real Try.func30 (by kernel_rfl), COK.nil (fn_ok tok4 (A := a30) (L := l30) (r := none) Try.func30 (by kernel_rfl) (by kernel_rfl) (loops1 (by kernel_rfl) lk30) (by rw [s30, g0] <;> rfl)), h⟩

/-! impl.PhasorOf -/
def a81 : Ann := ann [(7, [4, 5], [4, 5])] [2] 0
def lp81 : St → (Ex → St → R) → R := fun s k => match s with
  | ⟨[(4, .fv (.el (.sc (.fl .f64 f)))), (5, .fv (.el (.sc (.int .i64 q))))], []⟩ => (match (decide (q = 0) && !fcmp .geq .f64 (qrun 4 f 0).1 4598175219545276416 : Bool) with
    | true => k (.exit 1) ⟨[(4, .fv (.el (.sc (.fl .f64 ((qrun 4 f 0).1))))), (5, .fv (.el (.sc (.int .i64 ((qrun 4 f 0).2)))))], []⟩
    | false => none)
  | _ => none
def l81 : Loops := fun key s k => bif Nat.beq key 7 then lp81 s k else none
theorem st81 (f : Nat) (q : Int) (m : Nat) (k : Ex → St → R) : iterK a81 [4, 5] [4, 5] (codeK T4 a81 l81 Try.f81.ntmps (loopAt Try.f81 0)) (m + 1) ⟨[(4, .fv (.el (.sc (.fl .f64 f)))), (5, .fv (.el (.sc (.int .i64 q))))], []⟩ k = (match (fcmp .geq .f64 f 4598175219545276416 : Bool) with
  | true => iterK a81 [4, 5] [4, 5] (codeK T4 a81 l81 Try.f81.ntmps (loopAt Try.f81 0)) m ⟨[(4, .fv (.el (.sc (.fl .f64 (fop .sub .f64 f 4598175219545276416))))), (5, .fv (.el (.sc (.int .i64 (IntKind.i64.wrap (q + 1))))))], []⟩ k
  | false => k (.exit 1) ⟨[(4, .fv (.el (.sc (.fl .f64 f)))), (5, .fv (.el (.sc (.int .i64 q))))], []⟩) := by kernel_rfl
theorem ind81 (k : Ex → St → R) : ∀ (m f : Nat) (q : Int), 0 ≤ q → q + m ≤ 100 → fcmp .geq .f64 (qrun m f q).1 4598175219545276416 = false → iterK a81 [4, 5] [4, 5] (codeK T4 a81 l81 Try.f81.ntmps (loopAt Try.f81 0)) (m + 1) ⟨[(4, .fv (.el (.sc (.fl .f64 f)))), (5, .fv (.el (.sc (.int .i64 q))))], []⟩ k = k (.exit 1) ⟨[(4, .fv (.el (.sc (.fl .f64 ((qrun m f q).1))))), (5, .fv (.el (.sc (.int .i64 ((qrun m f q).2)))))], []⟩ := by
  intro m
  induction m with
  | zero =>
    intro f q h0 hq hd
    rw [st81]
    have hd2 : fcmp .geq .f64 f 4598175219545276416 = false := hd
    rw [hd2]
    rfl
  | succ m ih =>
    intro f q h0 hq hd
    have hw : IntKind.i64.wrap (q + 1) = q + 1 := wrap64 (by omega) (by omega)
    rw [st81, hw]
    unfold qrun at hd ⊢
    cases hg : fcmp .geq .f64 f 4598175219545276416 with
    | true =>
      rw [hg] at hd
      exact ih _ _ (by omega) (by omega) hd
    | false => rfl

theorem lk81 : LOK T4 a81 l81 Try.f81.ntmps (loopAt Try.f81 0) := by
  intro ins outs hA s k out h
  have hA' : ([4, 5], [4, 5]) = (ins, outs) := Option.some.inj ((show a81.lp (firstRegion (loopAt Try.f81 0)) = some ([4, 5], [4, 5]) by kernel_rfl).symm.trans hA)
  cases hA'
  have hk : firstRegion (loopAt Try.f81 0) = 7 := by kernel_rfl
  rw [hk] at h
  change lp81 s k = some out at h
  unfold lp81 at h
  split at h
  · rename_i f q
    cases hg : (decide (q = 0) && !fcmp .geq .f64 (qrun 4 f 0).1 4598175219545276416) with
    | false => rw [hg] at h; cases h
    | true =>
      rw [hg] at h
      simp only [Bool.and_eq_true, decide_eq_true_eq] at hg
      obtain ⟨rfl, hd⟩ := hg
      refine ⟨5, ?_⟩
      exact (ind81 k 4 f 0 (by omega) (by omega) (by rw [Bool.not_eq_true'] at hd; exact hd)).trans h
  · cases h
theorem e81 (t : Nat) : runFn T4 a81 l81 Try.f81 [.el (.sc (.fl .f64 t))] = (match fconv .f64 .f32 (nanOf .f64) with
  | some r1 => (match (fcmp .neq .f64 (fop .sub .f64 t t) 0 : Bool) with
    | true => some ⟨[.el (.sc (.cx .f32 r1 r1))], none⟩
    | false => (match (!isN .f64 t : Bool) with
      | true => (match (fcmp .geq .f64 (fabs t) big52 : Bool) with
        | true => some ⟨[.el (.sc (.cx .f32 1065353216 0))], none⟩
        | false => (match (decide (0 = 0) && !fcmp .geq .f64 (qrun 4 (part t) 0).1 4598175219545276416 : Bool) with
          | true => (match (((qrun 4 (part t) 0).2 : Int) == 1 : Bool) with
            | true => (match fconv .f64 .f32 (fop .sub .f64 0 (sinCore (part ((qrun 4 (part t) 0).1)))) with
              | some r2 => (match fconv .f64 .f32 (sinCore (part (fop .sub .f64 4598175219545276416 ((qrun 4 (part t) 0).1)))) with
                | some r3 => some ⟨[.el (.sc (.cx .f32 r2 r3))], none⟩
                | none => none)
              | none => none)
            | false => (match (((qrun 4 (part t) 0).2 : Int) == 2 : Bool) with
              | true => (match fconv .f64 .f32 (fop .sub .f64 0 (sinCore (part (fop .sub .f64 4598175219545276416 ((qrun 4 (part t) 0).1))))) with
                | some r4 => (match fconv .f64 .f32 (fop .sub .f64 0 (sinCore (part ((qrun 4 (part t) 0).1)))) with
                  | some r5 => some ⟨[.el (.sc (.cx .f32 r4 r5))], none⟩
                  | none => none)
                | none => none)
              | false => (match (((qrun 4 (part t) 0).2 : Int) == 3 : Bool) with
                | true => (match fconv .f64 .f32 (sinCore (part ((qrun 4 (part t) 0).1))) with
                  | some r6 => (match fconv .f64 .f32 (fop .sub .f64 0 (sinCore (part (fop .sub .f64 4598175219545276416 ((qrun 4 (part t) 0).1))))) with
                    | some r7 => some ⟨[.el (.sc (.cx .f32 r6 r7))], none⟩
                    | none => none)
                  | none => none)
                | false => (match fconv .f64 .f32 (sinCore (part (fop .sub .f64 4598175219545276416 ((qrun 4 (part t) 0).1)))) with
                  | some r8 => (match fconv .f64 .f32 (sinCore (part ((qrun 4 (part t) 0).1))) with
                    | some r9 => some ⟨[.el (.sc (.cx .f32 r8 r9))], none⟩
                    | none => none)
                  | none => none))))
          | false => none))
      | false => none))
  | none => none) := by kernel_rfl
theorem s81 (t : Nat) : runFn T4 a81 l81 Try.f81 [.el (.sc (.fl .f64 t))] = some ⟨[.el (.sc (.cx .f32 (phRe t) (phIm t)))], none⟩ := by
  rw [e81]
  unfold phRe phIm
  have hneq : fcmp .neq .f64 (fop .sub .f64 t t) 0 = !isNum .f64 t := sub_self_fin t
  rw [hneq]
  cases h : isNum .f64 t with
  | false => rfl
  | true =>
    have hN := isNum_notN h
    have ha := huge_abs h
    have hnan : fconv .f64 .f32 (nanOf .f64) = some (nanOf .f32) := narrow_nan (isN_nanOf .f64)
    rw [ha, hN]
    cases hh : huge t with
    | true => simp [hnan]
    | false =>
      obtain ⟨r3, s1, c1, s2, s3, c2, c3⟩ := ph_ok h hh
      have ns := nar_ok s2 s3
      have nc := nar_ok c2 c3
      have eF : (qrun 4 (part t) 0).1 = phF t := rfl
      have eQ : (qrun 4 (part t) 0).2 = phQ t := rfl
      have eC : sinCore (part (fop .sub .f64 4598175219545276416 (phF t))) = phC t := rfl
      have eS : sinCore (part (phF t)) = phS t := rfl
      rw [eF] at r3
      simp only [hnan, eF, eQ, eC, eS, r3, ns.1, ns.2, nc.1, nc.2, decide_true, Bool.not_false, Bool.not_true, Bool.and_self, cond_false, cond_true]
      cases phQ t == 1 <;> cases phQ t == 2 <;> cases phQ t == 3 <;> rfl
theorem c81 (t : Nat) (k : List RV → R) (out : Out) (h : k [.el (.sc (.cx .f32 (phRe t) (phIm t)))] = some out) : ∃ rs, Real Try.prog 81 ∧ COK Try.prog 81 [.el (.sc (.fl .f64 t))] rs ∧ k rs = some out := by
  exact ⟨_, real Try.func81 (by kernel_rfl), fn_ok tok4 (A := a81) (L := l81) (r := none) Try.func81 (by kernel_rfl) (by kernel_rfl) (loops1 (by kernel_rfl) lk81) (by rw [s81]), h⟩

/-! impl.areFinite -/
theorem e85 (xs : List Nat) : runFn T4 none0 noL Try.f85 [.vw none ⟨.f32, xs⟩] = (match (Nat.ble xs.length big : Bool) with
  | true => some ⟨[.el (.sc (.bo (!(xs.any notFin))))], none⟩
  | false => none) := by kernel_rfl
theorem s85 (xs : List Nat) : runFn T4 none0 noL Try.f85 [.vw none ⟨.f32, xs⟩] = (match (Nat.ble xs.length big : Bool) with
  | true => some ⟨[.el (.sc (.bo (xs.all fin)))], none⟩
  | false => none) := by
  rw [e85]
  rw [notFin_fun, not_any]
theorem c85 (xs : List Nat) (k : List RV → R) (out : Out) (h : (match (Nat.ble xs.length big : Bool) with
  | true => k [.el (.sc (.bo (xs.all fin)))]
  | false => none) = some out) : ∃ rs, Real Try.prog 85 ∧ COK Try.prog 85 [.vw none ⟨.f32, xs⟩] rs ∧ k rs = some out := by
  cases g0 : (Nat.ble xs.length big : Bool) with
  | true =>
    rw [g0] at h
    exact ⟨_, real Try.func85 (by kernel_rfl), fn_ok tok4 (A := none0) (L := noL) (r := none) Try.func85 (by kernel_rfl) (by kernel_rfl) (loops0 (by kernel_rfl)) (by rw [s85, g0]), h⟩
  | false =>
    rw [g0] at h
    cases h

def S5 : SFn := fun f args k => match f, args with
  | 30, [.vw none ⟨.f32, vs⟩, .vw none ⟨.f32, xs⟩, .el (.sc (.fl .f32 t))] => k [.fresh 30 ⟨.f32, orNil (tvOk vs xs t) (tvX vs xs t)⟩, .el (.sc (.bo (tvOk vs xs t)))]
  | 81, [.el (.sc (.fl .f64 t))] => k [.el (.sc (.cx .f32 (phRe t) (phIm t)))]
  | 85, [.vw none ⟨.f32, xs⟩] => (match (Nat.ble xs.length big : Bool) with
    | true => k [.el (.sc (.bo (xs.all fin)))]
    | false => none)
  | _, _ => S4 f args k
abbrev M5 : MFn := M4
def T5 : TT := tab.T S5 muts M5
theorem tok5 : TOK Try.prog T5 := by
  refine (tab_ok tabok).tok (fun f args k out h => ?_) (fun f vec args k out h => ?_)
  · change S5 f args k = some out at h
    unfold S5 at h
    split at h
    · exact (fun k out h => cok_call (c30 _ _ _ k out h)) k out h
    · exact (fun k out h => cok_call (c81 _ k out h)) k out h
    · exact (fun k out h => cok_call (c85 _ k out h)) k out h
    · exact tok4.S f args k out h
  · exact tok4.M f vec args k out h

end Go.Sm.Ytdeplgocckdbiaa
