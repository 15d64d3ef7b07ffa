/- What the functions hand back: level 6. -/
import Derived.Test.YtdeplgocckdbiaaD6
namespace Go.Sm.Ytdeplgocckdbiaa
open Go Go.Sm Go.RowKit Go.Proofs

/-! impl.SoftScan -/
def a17 : Ann := ann [(5, [0, 1, 6, 20, 21, 22], [6])] [4, 5] 0
def lp17 : St → (Ex → St → R) → R := fun s k => match s with
  | ⟨[(0, .fv (.vw (some 0) ⟨.f32, ps⟩)), (1, .fv (.el (.sc (.int .i64 d)))), (6, .fv (.own 0)), (20, .fv (.vw (some 0) ⟨.f32, xs⟩)), (21, .fv (.el (.sc (.int .i64 n)))), (22, .fv (.el (.sc (.int .i64 i))))], [some ⟨30, ⟨.f32, zs⟩⟩]⟩ => (match ((decide (n = (xs.length : Int)) && (decide (i = 0) && (Nat.ble xs.length big && Nat.ble ((zs : List Nat).length + xs.length) big))) : Bool) with
    | true => k (.exit 0) ⟨[(6, .fv (.own 0))], [some ⟨30, ⟨.f32, rep (fun j zs => zs ++ [softAt xs (ps.length : Int) d j]) (xs.length) 0 ((zs : List Nat) : (List Nat))⟩⟩]⟩
    | false => none)
  | _ => none
def l17 : Loops := fun key s k => bif Nat.beq key 5 then lp17 s k else none
theorem st17 (ps : List Nat) (d : Int) (xs : List Nat) (n : Int) (i : Int) (zs : List Nat) (m : Nat) (k : Ex → St → R) : iterK a17 [0, 1, 6, 20, 21, 22] [6] (codeK T6 a17 l17 Try.f17.ntmps (loopAt Try.f17 0)) (m + 1) ⟨[(0, .fv (.vw (some 0) ⟨.f32, ps⟩)), (1, .fv (.el (.sc (.int .i64 d)))), (6, .fv (.own 0)), (20, .fv (.vw (some 0) ⟨.f32, xs⟩)), (21, .fv (.el (.sc (.int .i64 n)))), (22, .fv (.el (.sc (.int .i64 i))))], [some ⟨30, ⟨.f32, zs⟩⟩]⟩ k = (match (decide ((i : Int) < n) : Bool) with
  | true => (match (decide (0 ≤ (i : Int) ∧ (i : Int) < (xs.length : Int)) && true : Bool) with
    | true => (match (xs : List Nat)[Int.toNat i]? with
      | some x1 => (match ((d : Int) == 1 : Bool) with
        | true => (match (Nat.beq 30 30 && decide ((zs : List Nat).length + ([fop .mul .f32 x1 (fop .sub .f32 1065353216 (fop .quo .f32 (fint .f32 i) (fint .f32 ((ps.length : Int)))))] : List Nat).length ≤ 1099511627776) : Bool) with
          | true => iterK a17 [0, 1, 6, 20, 21, 22] [6] (codeK T6 a17 l17 Try.f17.ntmps (loopAt Try.f17 0)) m ⟨[(0, .fv (.vw (some 0) ⟨.f32, ps⟩)), (1, .fv (.el (.sc (.int .i64 d)))), (6, .fv (.own 0)), (20, .fv (.vw (some 0) ⟨.f32, xs⟩)), (21, .fv (.el (.sc (.int .i64 n)))), (22, .fv (.el (.sc (.int .i64 (IntKind.i64.wrap (i + 1))))))], [some ⟨30, ⟨.f32, (zs : List Nat) ++ ([fop .mul .f32 x1 (fop .sub .f32 1065353216 (fop .quo .f32 (fint .f32 i) (fint .f32 ((ps.length : Int)))))])⟩⟩]⟩ k
          | false => none)
        | false => (match ((d : Int) == 2 : Bool) with
          | true => (match (Nat.beq 30 30 && decide ((zs : List Nat).length + ([fop .mul .f32 x1 (fop .mul .f32 1056964608 (fop .add .f32 1065353216 (phRe (wid (fop .mul .f32 1056964608 (fop .quo .f32 (fint .f32 i) (fint .f32 ((ps.length : Int)))))))))] : List Nat).length ≤ 1099511627776) : Bool) with
            | true => iterK a17 [0, 1, 6, 20, 21, 22] [6] (codeK T6 a17 l17 Try.f17.ntmps (loopAt Try.f17 0)) m ⟨[(0, .fv (.vw (some 0) ⟨.f32, ps⟩)), (1, .fv (.el (.sc (.int .i64 d)))), (6, .fv (.own 0)), (20, .fv (.vw (some 0) ⟨.f32, xs⟩)), (21, .fv (.el (.sc (.int .i64 n)))), (22, .fv (.el (.sc (.int .i64 (IntKind.i64.wrap (i + 1))))))], [some ⟨30, ⟨.f32, (zs : List Nat) ++ ([fop .mul .f32 x1 (fop .mul .f32 1056964608 (fop .add .f32 1065353216 (phRe (wid (fop .mul .f32 1056964608 (fop .quo .f32 (fint .f32 i) (fint .f32 ((ps.length : Int)))))))))])⟩⟩]⟩ k
            | false => none)
          | false => (match (Nat.beq 30 30 && decide ((zs : List Nat).length + ([fop .mul .f32 x1 1065353216] : List Nat).length ≤ 1099511627776) : Bool) with
            | true => iterK a17 [0, 1, 6, 20, 21, 22] [6] (codeK T6 a17 l17 Try.f17.ntmps (loopAt Try.f17 0)) m ⟨[(0, .fv (.vw (some 0) ⟨.f32, ps⟩)), (1, .fv (.el (.sc (.int .i64 d)))), (6, .fv (.own 0)), (20, .fv (.vw (some 0) ⟨.f32, xs⟩)), (21, .fv (.el (.sc (.int .i64 n)))), (22, .fv (.el (.sc (.int .i64 (IntKind.i64.wrap (i + 1))))))], [some ⟨30, ⟨.f32, (zs : List Nat) ++ ([fop .mul .f32 x1 1065353216])⟩⟩]⟩ k
            | false => none)))
      | none => none)
    | false => none)
  | false => k (.exit 0) ⟨[(6, .fv (.own 0))], [some ⟨30, ⟨.f32, zs⟩⟩]⟩) := by kernel_rfl
theorem ind17 (ps : List Nat) (d : Int) (xs : List Nat) (hx : (Nat.ble xs.length big) = true) (k : Ex → St → R) : ∀ (m j : Nat) (zs : List Nat), zs.length + m ≤ 1099511627776 → 0 ≤ j → j + m = xs.length → iterK a17 [0, 1, 6, 20, 21, 22] [6] (codeK T6 a17 l17 Try.f17.ntmps (loopAt Try.f17 0)) (m + 1) ⟨[(0, .fv (.vw (some 0) ⟨.f32, ps⟩)), (1, .fv (.el (.sc (.int .i64 d)))), (6, .fv (.own 0)), (20, .fv (.vw (some 0) ⟨.f32, xs⟩)), (21, .fv (.el (.sc (.int .i64 (xs.length : Int))))), (22, .fv (.el (.sc (.int .i64 (j : Int)))))], [some ⟨30, ⟨.f32, zs⟩⟩]⟩ k =
    k (.exit 0) ⟨[(6, .fv (.own 0))], [some ⟨30, ⟨.f32, rep (fun j zs => zs ++ [softAt xs (ps.length : Int) d j]) m j (zs : (List Nat))⟩⟩]⟩ := by
  intro m
  induction m with
  | zero =>
    intro j zs hs0 hlo hj
    have hx_ := big_le hx
    have h1 : ¬ (((j : Int) < (xs.length : Int))) := by omega
    rw [st17]
    simp only [h1, rep, decide_false, List.length_singleton] <;> rfl
  | succ m ih =>
    intro j zs hs0 hlo hj
    have hx_ := big_le hx
    have h1 : ((j : Int) < (xs.length : Int)) := by omega
    have hbq : Nat.beq 30 30 = true := rfl
    have hzl : zs.length + 1 ≤ 1099511627776 := by omega
    have xb : (0 : Int) ≤ ((j : Nat) : Int) ∧ ((j : Nat) : Int) < (xs.length : Int) := by omega
    have xq : xs[Int.toNat ((j : Nat) : Int)]? = some (xs.getD (j) 0) := getI (by omega)
    have xp : xs[j]? = some (xs.getD (j) 0) := getI2 (by omega)
    have wn : IntKind.i64.wrap ((j : Int) + 1) = ((j + 1 : Nat) : Int) := wrapN (by omega) (by omega)
    rw [st17]
    simp only [h1, wn, hbq, hzl, xb, xq, xp, and_self, decide_true, Bool.and_true, Int.le_refl, List.length_singleton]
    refine Eq.trans ?_ (ih (j + 1) (zs ++ [softAt xs (ps.length : Int) d j]) (by simp; omega) (by omega) (by omega))
    unfold softAt softBy
    cases g1 : (d == 1 : Bool) with
    | true =>
      have g2 : (d == 2 : Bool) = false := by
        have := eq_of_beq g1
        subst this
        rfl
      simp only [g1, g2, cond_true, cond_false, hzl, List.length_singleton, decide_true, Bool.and_true]
      try rfl
    | false =>
      cases g2 : (d == 2 : Bool) with
      | true =>
        simp only [g1, g2, cond_true, cond_false, hzl, List.length_singleton, decide_true, Bool.and_true]
        try rfl
      | false =>
        simp only [g1, g2, cond_true, cond_false, hzl, List.length_singleton, decide_true, Bool.and_true]
        try rfl

theorem lk17 : LOK T6 a17 l17 Try.f17.ntmps (loopAt Try.f17 0) := by
  intro ins outs hA s k out h
  have hA' : ([0, 1, 6, 20, 21, 22], [6]) = (ins, outs) := Option.some.inj ((show a17.lp (firstRegion (loopAt Try.f17 0)) = some ([0, 1, 6, 20, 21, 22], [6]) by kernel_rfl).symm.trans hA)
  cases hA'
  have hk : firstRegion (loopAt Try.f17 0) = 5 := by kernel_rfl
  rw [hk] at h
  change lp17 s k = some out at h
  unfold lp17 at h
  split at h
  · rename_i ps d xs n i zs
    cases hg : (decide (n = (xs.length : Int)) && (decide (i = 0) && (Nat.ble xs.length big && Nat.ble (zs.length + xs.length) big))) with
    | false => rw [hg] at h; cases h
    | true =>
      rw [hg] at h
      simp only [Bool.and_eq_true, decide_eq_true_eq] at hg
      obtain ⟨rfl, rfl, hx, gs0⟩ := hg
      refine ⟨(xs.length) + 1, ?_⟩
      have hx_ := big_le hx
      have gs0_ := big_le gs0
      exact (ind17 ps d xs hx k (xs.length) 0 zs (by omega) (by omega) (by omega)).trans h
  · cases h
theorem e17 (xs : List Nat) (d : Int) : runFn T6 a17 l17 Try.f17 [.vw none ⟨.f32, xs⟩, .el (.sc (.int .i64 d))] = (match (!(bins xs 2) : Bool) with
  | true => some ⟨[.nil, .el (.sc (.bo false))], none⟩
  | false => (match (!(within d 0 2) : Bool) with
    | true => some ⟨[.nil, .el (.sc (.bo false))], none⟩
    | false => (match ((decide (((xs.length : Int)) = (xs.length : Int)) && (decide (0 = 0) && (Nat.ble xs.length big && Nat.ble (([] : List Nat).length + xs.length) big))) : Bool) with
      | true => (match (Nat.ble (rep (fun j zs => zs ++ [softAt xs (xs.length : Int) d j]) (xs.length) 0 (([] : List Nat) : (List Nat))).length big : Bool) with
        | true => (match ((rep (fun j zs => zs ++ [softAt xs (xs.length : Int) d j]) (xs.length) 0 (([] : List Nat) : (List Nat))).all fin : Bool) with
          | true => some ⟨[.fresh 30 ⟨.f32, rep (fun j zs => zs ++ [softAt xs (xs.length : Int) d j]) (xs.length) 0 (([] : List Nat) : (List Nat))⟩, .el (.sc (.bo true))], none⟩
          | false => some ⟨[.nil, .el (.sc (.bo false))], none⟩)
        | false => none)
      | false => none))) := by kernel_rfl
theorem s17 (xs : List Nat) (d : Int) : runFn T6 a17 l17 Try.f17 [.vw none ⟨.f32, xs⟩, .el (.sc (.int .i64 d))] = (match (softOk xs d : Bool) with
  | true => some ⟨[.fresh 30 ⟨.f32, softX xs d⟩, .el (.sc (.bo true))], none⟩
  | false => some ⟨[.nil, .el (.sc (.bo false))], none⟩) := by
  rw [e17]
  unfold softOk
  cases h1 : bins xs 2 with
  | false => simp
  | true =>
    cases h2 : within d 0 2 with
    | false => simp
    | true =>
      have h1b := h1
      unfold bins at h1b
      simp only [Bool.and_eq_true, decide_eq_true_eq] at h1b
      have hx : Nat.ble xs.length big = true := big_of (by omega)
      have hz : Nat.ble (0 + xs.length) big = true := big_of (by omega)
      have hr : Nat.ble (softX xs d).length big = true := big_of (by rw [softX_len]; omega)
      have e := rep_map (softAt xs (xs.length : Int) d) xs.length 0 []
      have e2 : (fromTo 0 xs.length).map (softAt xs (xs.length : Int) d) = softX xs d := rfl
      rw [List.nil_append, e2] at e
      simp only [hx, hz, e, hr, List.length_nil, decide_true, Bool.and_self, Bool.not_true, Bool.true_and]
      try (cases h6 : (softX xs d).all fin <;> simp [h6])
theorem c17 (xs : List Nat) (d : Int) (k : List RV → R) (out : Out) (h : k [.fresh 30 ⟨.f32, orNil (softOk xs d) (softX xs d)⟩, .el (.sc (.bo (softOk xs d)))] = some out) : ∃ rs, Real Try.prog 17 ∧ COK Try.prog 17 [.vw none ⟨.f32, xs⟩, .el (.sc (.int .i64 d))] rs ∧ k rs = some out := by
  cases g0 : (softOk xs d : Bool) with
  | true =>
    rw [g0] at h
    exact ⟨_, real Try.func17 (by kernel_rfl), fn_ok tok6 (A := a17) (L := l17) (r := none) Try.func17 (by kernel_rfl) (by kernel_rfl) (loops1 (by kernel_rfl) lk17) (by rw [s17, g0]; rfl), h⟩
  | false =>
    rw [g0] at h
    exact ⟨_, real Try.func17 (by kernel_rfl), COK.nil (fn_ok tok6 (A := a17) (L := l17) (r := none) Try.func17 (by kernel_rfl) (by kernel_rfl) (loops1 (by kernel_rfl) lk17) (by rw [s17, g0] <;> rfl)), h⟩

def S7 : SFn := fun f args k => match f, args with
  | 17, [.vw none ⟨.f32, xs⟩, .el (.sc (.int .i64 d))] => k [.fresh 30 ⟨.f32, orNil (softOk xs d) (softX xs d)⟩, .el (.sc (.bo (softOk xs d)))]
  | _, _ => S6 f args k
abbrev M7 : MFn := M6
def T7 : TT := tab.T S7 muts M7
theorem tok7 : TOK Try.prog T7 := by
  refine (tab_ok tabok).tok (fun f args k out h => ?_) (fun f vec args k out h => ?_)
  · change S7 f args k = some out at h
    unfold S7 at h
    split at h
    · exact (fun k out h => cok_call (c17 _ _ k out h)) k out h
    · exact tok6.S f args k out h
  · exact tok6.M f vec args k out h

end Go.Sm.Ytdeplgocckdbiaa
