/- What the functions hand back: level 11. -/
import Derived.Test.YtpckpfbjhnllbaaD11
namespace Go.Sm.Ytpckpfbjhnllbaa
open Go Go.Sm Go.RowKit Go.Proofs

/-! impl.SpectrumOf -/
def a28 : Ann := ann [(5, [0, 1, 2, 10, 30, 31], [10])] [8, 9] 0
def lp28 : St → (Ex → St → R) → R := fun s k => match s with
  | ⟨[(0, .fv (.vw (some 0) ⟨.line, xs⟩)), (1, .fv (.el (.sc (.fl .f32 b)))), (2, .fv (.el (.sc (.fl .f32 d)))), (10, .fv (.own 0)), (30, .fv (.el (.sc (.int .i64 n)))), (31, .fv (.el (.sc (.int .i64 i))))], [some ⟨24, ⟨.f32, zs⟩⟩]⟩ => (match ((decide (i = 0) && (Nat.ble xs.length big && (Nat.ble ((zs : List Nat).length + n.toNat) big && decide (n ≤ 1099511627776)))) : Bool) with | true => (match repE (fun j zs => bif linesAtOk xs (placeAt b d (j : Int)) then some (zs ++ [spAt xs b d j]) else none) (n.toNat) 0 ((zs : List Nat) : (List Nat)) with | some s => k (.exit 0) ⟨[(10, .fv (.own 0))], [some ⟨24, ⟨.f32, s⟩⟩]⟩ | none => k .ret ⟨[(8, .fv (.nil)), (9, .fv (.el (.sc (.bo false))))], []⟩) | false => none)
  | _ => none
def l28 : Loops := fun key s k => bif Nat.beq key 5 then lp28 s k else none
theorem st28 (xs : List LineV) (b : Nat) (d : Nat) (n : Int) (i : Int) (zs : List Nat) (m : Nat) (k : Ex → St → R) : iterK a28 [0, 1, 2, 10, 30, 31] [10] (codeK T11 a28 l28 Try.f28.ntmps (loopAt Try.f28 0)) (m + 1) ⟨[(0, .fv (.vw (some 0) ⟨.line, xs⟩)), (1, .fv (.el (.sc (.fl .f32 b)))), (2, .fv (.el (.sc (.fl .f32 d)))), (10, .fv (.own 0)), (30, .fv (.el (.sc (.int .i64 n)))), (31, .fv (.el (.sc (.int .i64 i))))], [some ⟨24, ⟨.f32, zs⟩⟩]⟩ k = (match (decide ((i : Int) < n) : Bool) with | true => (match (!(linesAtOk xs (fop .add .f32 b (fop .mul .f32 (fint .f32 i) d))) : Bool) with | true => k .ret ⟨[(8, .fv (.nil)), (9, .fv (.el (.sc (.bo false))))], []⟩ | false => (match (Nat.beq 24 24 && decide ((zs : List Nat).length + ([orZero (linesAtOk xs (fop .add .f32 b (fop .mul .f32 (fint .f32 i) d))) (linesSum xs (fop .add .f32 b (fop .mul .f32 (fint .f32 i) d)))] : List Nat).length ≤ 1099511627776) : Bool) with | true => iterK a28 [0, 1, 2, 10, 30, 31] [10] (codeK T11 a28 l28 Try.f28.ntmps (loopAt Try.f28 0)) m ⟨[(0, .fv (.vw (some 0) ⟨.line, xs⟩)), (1, .fv (.el (.sc (.fl .f32 b)))), (2, .fv (.el (.sc (.fl .f32 d)))), (10, .fv (.own 0)), (30, .fv (.el (.sc (.int .i64 n)))), (31, .fv (.el (.sc (.int .i64 (IntKind.i64.wrap (i + 1))))))], [some ⟨24, ⟨.f32, (zs : List Nat) ++ ([orZero (linesAtOk xs (fop .add .f32 b (fop .mul .f32 (fint .f32 i) d))) (linesSum xs (fop .add .f32 b (fop .mul .f32 (fint .f32 i) d)))])⟩⟩]⟩ k | false => none)) | false => k (.exit 0) ⟨[(10, .fv (.own 0))], [some ⟨24, ⟨.f32, zs⟩⟩]⟩) := by kernel_rfl
theorem ind28 (xs : List LineV) (b : Nat) (d : Nat) (n : Int) (hx : (Nat.ble xs.length big) = true) (k : Ex → St → R) : ∀ (m j : Nat) (zs : List Nat), zs.length + m ≤ 1099511627776 → n ≤ 1099511627776 → 0 ≤ j → j + m = n.toNat → iterK a28 [0, 1, 2, 10, 30, 31] [10] (codeK T11 a28 l28 Try.f28.ntmps (loopAt Try.f28 0)) (m + 1) ⟨[(0, .fv (.vw (some 0) ⟨.line, xs⟩)), (1, .fv (.el (.sc (.fl .f32 b)))), (2, .fv (.el (.sc (.fl .f32 d)))), (10, .fv (.own 0)), (30, .fv (.el (.sc (.int .i64 n)))), (31, .fv (.el (.sc (.int .i64 (j : Int)))))], [some ⟨24, ⟨.f32, zs⟩⟩]⟩ k =
    (match repE (fun j zs => bif linesAtOk xs (placeAt b d (j : Int)) then some (zs ++ [spAt xs b d j]) else none) m j (zs : (List Nat)) with
    | some s => k (.exit 0) ⟨[(10, .fv (.own 0))], [some ⟨24, ⟨.f32, s⟩⟩]⟩
    | none => k .ret ⟨[(8, .fv (.nil)), (9, .fv (.el (.sc (.bo false))))], []⟩) := by
  intro m
  induction m with
  | zero =>
    intro j zs hs0 hs1 hlo hj
    have hx_ := big_le hx
    have h1 : ¬ ((j : Int) < n) := by omega
    rw [st28]
    simp only [h1, repE, decide_false, Int.toNat_natCast, List.length_singleton] <;> rfl
  | succ m ih =>
    intro j zs hs0 hs1 hlo hj
    have hx_ := big_le hx
    have h1 : (j : Int) < n := by omega
    have hbq : Nat.beq 24 24 = true := rfl
    have hzl : zs.length + 1 ≤ 1099511627776 := by omega
    have wn : IntKind.i64.wrap ((j : Int) + 1) = ((j + 1 : Nat) : Int) := wrapN (by omega) (by omega)
    rw [st28]
    simp only [h1, wn, hbq, hzl, and_self, decide_true, Bool.and_true, Int.le_refl, Int.toNat_natCast, List.length_singleton]
    rw [repE_succ]
    have r1 := ih (j + 1) (zs ++ [spAt xs b d j]) (by simp; omega) hs1 (by omega) (by omega)
    try rw [hx]
    try simp only [cond_true]
    have ep : fop .add .f32 b (fop .mul .f32 (fint .f32 (j : Int)) d) = placeAt b d (j : Int) := rfl
    try simp only [ep]
    cases hf : linesAtOk xs (placeAt b d (j : Int)) with
    | true => exact r1
    | false => rfl

theorem lk28 : LOK T11 a28 l28 Try.f28.ntmps (loopAt Try.f28 0) := by
  intro ins outs hA s k out h
  have hA' : ([0, 1, 2, 10, 30, 31], [10]) = (ins, outs) := Option.some.inj ((show a28.lp (firstRegion (loopAt Try.f28 0)) = some ([0, 1, 2, 10, 30, 31], [10]) by kernel_rfl).symm.trans hA)
  cases hA'
  have hk : firstRegion (loopAt Try.f28 0) = 5 := by kernel_rfl
  rw [hk] at h
  change lp28 s k = some out at h
  unfold lp28 at h
  split at h
  · rename_i xs b d n i zs
    cases hg : (decide (i = 0) && (Nat.ble xs.length big && (Nat.ble (zs.length + n.toNat) big && decide (n ≤ 1099511627776)))) with
    | false => rw [hg] at h; cases h
    | true =>
      rw [hg] at h
      simp only [Bool.and_eq_true, decide_eq_true_eq] at hg
      obtain ⟨rfl, hx, gs0, gs1⟩ := hg
      refine ⟨(n.toNat) + 1, ?_⟩
      have hx_ := big_le hx
      have gs0_ := big_le gs0
      exact (ind28 xs b d n hx k (n.toNat) 0 zs (by omega) (by omega) (by omega) (by omega)).trans h
  · cases h
theorem e28 (xs : List LineV) (b : Nat) (d : Nat) (n : Int) : runFn T11 a28 l28 Try.f28 [.vw none ⟨.line, xs⟩, .el (.sc (.fl .f32 b)), .el (.sc (.fl .f32 d)), .el (.sc (.int .i64 n))] = (match (decide (12 ≤ 1099511627776) : Bool) with | true => (match (!(linesIn xs 0 12) : Bool) with | true => some ⟨[.nil, .el (.sc (.bo false))], none⟩ | false => (match (!(([b, d]).all fin) : Bool) with | true => some ⟨[.nil, .el (.sc (.bo false))], none⟩ | false => (match (!(within n 1 128) : Bool) with | true => some ⟨[.nil, .el (.sc (.bo false))], none⟩ | false => (match ((decide (0 = 0) && (Nat.ble xs.length big && (Nat.ble (([] : List Nat).length + n.toNat) big && decide (n ≤ 1099511627776)))) : Bool) with | true => (match repE (fun j zs => bif linesAtOk xs (placeAt b d (j : Int)) then some (zs ++ [spAt xs b d j]) else none) (n.toNat) 0 (([] : List Nat) : (List Nat)) with | some s => some ⟨[.fresh 24 ⟨.f32, s⟩, .el (.sc (.bo true))], none⟩ | none => some ⟨[.nil, .el (.sc (.bo false))], none⟩) | false => none)))) | false => none) := by kernel_rfl
theorem s28 (xs : List LineV) (b : Nat) (d : Nat) (n : Int) : runFn T11 a28 l28 Try.f28 [.vw none ⟨.line, xs⟩, .el (.sc (.fl .f32 b)), .el (.sc (.fl .f32 d)), .el (.sc (.int .i64 n))] = (match (spOk xs b d n : Bool) with | true => some ⟨[.fresh 24 ⟨.f32, spX xs b d n⟩, .el (.sc (.bo true))], none⟩ | false => some ⟨[.nil, .el (.sc (.bo false))], none⟩) := by
  rw [e28]
  rw [linesIn_12]
  unfold spOk
  cases h1 : linesOk xs with
  | false => simp
  | true =>
    cases h2 : fin b with
    | false => simp [h2]
    | true =>
      cases h3 : fin d with
      | false => simp [h2, h3]
      | true =>
        cases h4 : within n 1 128 with
        | false => simp [h2, h3, h4]
        | true =>
          have h5 : 1 ≤ n ∧ n ≤ 128 := by
            unfold within at h4
            simpa using h4
          have h1b := h1
          unfold linesOk at h1b
          rw [Bool.and_eq_true, decide_eq_true_eq] at h1b
          have hx : Nat.ble xs.length big = true := big_of (by omega)
          have hz : Nat.ble (0 + n.toNat) big = true := big_of (by omega)
          have hz2 : Nat.ble n.toNat big = true := big_of (by omega)
          have hn : n ≤ 1099511627776 := by omega
          have e := sp_run xs b d n.toNat
          have hl : Nat.ble (spX xs b d n).length big = true := big_of (by rw [spX_len]; omega)
          have e2 : (fromTo 0 n.toNat).map (spAt xs b d) = spX xs b d n := rfl
          rw [e2] at e
          simp only [hx, hz, hz2, hn, e, List.length_nil, List.all_cons, List.all_nil, h2, h3, decide_true, Bool.and_self, Bool.not_true, Bool.true_and]
          cases h6 : spAll xs b d n.toNat with
          | false => simp
          | true => simp [hl]
theorem c28 (xs : List LineV) (b : Nat) (d : Nat) (n : Int) (k : List RV → R) (out : Out) (h : k [.fresh 24 ⟨.f32, orNil (spOk xs b d n) (spX xs b d n)⟩, .el (.sc (.bo (spOk xs b d n)))] = some out) : ∃ rs, Real Try.prog 28 ∧ COK Try.prog 28 [.vw none ⟨.line, xs⟩, .el (.sc (.fl .f32 b)), .el (.sc (.fl .f32 d)), .el (.sc (.int .i64 n))] rs ∧ k rs = some out := by
  cases g0 : (spOk xs b d n : Bool) with
  | true =>
    rw [g0] at h
    exact ⟨_, real Try.func28 (by kernel_rfl), fn_ok tok11 (A := a28) (L := l28) (r := none) Try.func28 (by kernel_rfl) (by kernel_rfl) (loops1 (by kernel_rfl) lk28) (by rw [s28, g0]; rfl), h⟩
  | false =>
    rw [g0] at h
    exact ⟨_, real Try.func28 (by kernel_rfl), COK.nil (fn_ok tok11 (A := a28) (L := l28) (r := none) Try.func28 (by kernel_rfl) (by kernel_rfl) (loops1 (by kernel_rfl) lk28) (by rw [s28, g0] <;> rfl)), h⟩

def S12 : SFn := fun f args k => match f, args with
  | 28, [.vw none ⟨.line, xs⟩, .el (.sc (.fl .f32 b)), .el (.sc (.fl .f32 d)), .el (.sc (.int .i64 n))] => k [.fresh 24 ⟨.f32, orNil (spOk xs b d n) (spX xs b d n)⟩, .el (.sc (.bo (spOk xs b d n)))]
  | _, _ => S11 f args k
abbrev M12 : MFn := M11
def T12 : TT := tab.T S12 muts M12
theorem tok12 : TOK Try.prog T12 := by
  refine (tab_ok tabok).tok (fun f args k out h => ?_) (fun f vec args k out h => ?_)
  · change S12 f args k = some out at h
    unfold S12 at h
    split at h
    · exact (fun k out h => cok_call (c28 _ _ _ _ k out h)) k out h
    · exact tok11.S f args k out h
  · exact tok11.M f vec args k out h

end Go.Sm.Ytpckpfbjhnllbaa
