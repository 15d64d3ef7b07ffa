/- What the functions hand back: level 1. -/
import Derived.Test.YtpnkcjlapkhclaaD1
namespace Go.Sm.Ytpnkcjlapkhclaa
open Go Go.Sm Go.RowKit Go.Proofs

/-! laws.eqFloat32S -/
def a25 : Ann := ann [(4, [0, 1, 5], [])] [4] 0
def l25 : Loops := fun key s k => match key, s with
  | 4, ⟨[(0, .fv (.vw (some 0) ⟨.f32, xs⟩)), (1, .fv (.vw (some 1) ⟨.f32, ys⟩)), (5, .fv (.el (.sc (.int .i64 i))))], []⟩ => (match (decide (i = 0) && (Nat.beq xs.length ys.length && Nat.ble xs.length big) : Bool) with
    | true => (match (all2 sameW xs ys : Bool) with
      | true => k (.exit 0) ⟨[], []⟩
      | false => k .ret ⟨[(4, .fv (.el (.sc (.bo false))))], []⟩)
    | false => none)
  | _, _ => none
theorem st25 (xs : List Nat) (ys : List Nat) (i : Int) (m : Nat) (k : Ex → St → R) : iterK a25 [0, 1, 5] [] (codeK T1 a25 l25 Try.f25.ntmps (loopAt Try.f25 0)) (m + 1) ⟨[(0, .fv (.vw (some 0) ⟨.f32, xs⟩)), (1, .fv (.vw (some 1) ⟨.f32, ys⟩)), (5, .fv (.el (.sc (.int .i64 i))))], []⟩ k = (match (decide ((i : Int) < (xs.length : Int)) : Bool) with
  | true => (match (decide (0 ≤ (i : Int) ∧ (i : Int) < (xs.length : Int)) && true : Bool) with
    | true => (match (xs : List Nat)[Int.toNat i]? with
      | some x1 => (match (decide (0 ≤ (i : Int) ∧ (i : Int) < (ys.length : Int)) && true : Bool) with
        | true => (match (ys : List Nat)[Int.toNat i]? with
          | some x2 => (match (!(sameF (wid x1) (wid x2)) : Bool) with
            | true => k .ret ⟨[(4, .fv (.el (.sc (.bo false))))], []⟩
            | false => iterK a25 [0, 1, 5] [] (codeK T1 a25 l25 Try.f25.ntmps (loopAt Try.f25 0)) m ⟨[(0, .fv (.vw (some 0) ⟨.f32, xs⟩)), (1, .fv (.vw (some 1) ⟨.f32, ys⟩)), (5, .fv (.el (.sc (.int .i64 (IntKind.i64.wrap (i + 1))))))], []⟩ k)
          | none => none)
        | false => none)
      | none => none)
    | false => none)
  | false => k (.exit 0) ⟨[], []⟩) := by kernel_rfl
theorem ind25 (xs ys : List Nat) (hl : xs.length = ys.length) (hx : Nat.ble xs.length big = true) (k : Ex → St → R) : ∀ (m j : Nat), j + m = xs.length → iterK a25 [0, 1, 5] [] (codeK T1 a25 l25 Try.f25.ntmps (loopAt Try.f25 0)) (m + 1) ⟨[(0, .fv (.vw (some 0) ⟨.f32, xs⟩)), (1, .fv (.vw (some 1) ⟨.f32, ys⟩)), (5, .fv (.el (.sc (.int .i64 (j : Int)))))], []⟩ k =
    (match all2 sameW (xs.drop j) (ys.drop j) with
    | true => k (.exit 0) ⟨[], []⟩
    | false => k .ret ⟨[(4, .fv (.el (.sc (.bo false))))], []⟩) := by
  intro m
  induction m with
  | zero =>
    intro j hj
    have h1 : ¬ ((j : Int) < (xs.length : Int)) := by omega
    rw [st25, List.drop_of_length_le (by omega)]
    simp [h1, all2]
  | succ m ih =>
    intro j hj
    have hlt : j < xs.length := by omega
    have hlt2 : j < ys.length := by omega
    have h1 : ((j : Int) < (xs.length : Int)) := by omega
    have h12 : ((j : Int) < (ys.length : Int)) := by omega
    have h2 : (0 : Int) ≤ (j : Int) := by omega
    rw [st25, wrap_succ hlt hx]
    have h3 : xs[Int.toNat (j : Int)]? = some xs[j] := by simp [hlt]
    have h4 : ys[Int.toNat (j : Int)]? = some ys[j] := by simp [hlt2]
    rw [List.drop_eq_getElem_cons hlt, List.drop_eq_getElem_cons hlt2, ih (j + 1) (by omega)]
    simp only [h1, h12, h2, h3, h4, and_self, decide_true, Bool.and_true, all2]
    unfold sameW
    cases hp : sameF (wid xs[j]) (wid ys[j]) <;> simp

theorem lk25 : LOK T1 a25 l25 Try.f25.ntmps (loopAt Try.f25 0) := by
  intro ins outs hA s k out h
  have hA' : ([0, 1, 5], []) = (ins, outs) := Option.some.inj ((show a25.lp (firstRegion (loopAt Try.f25 0)) = some ([0, 1, 5], []) by kernel_rfl).symm.trans hA)
  cases hA'
  have hk : firstRegion (loopAt Try.f25 0) = 4 := by kernel_rfl
  rw [hk] at h
  unfold l25 at h
  split at h
  · rename_i xs ys i _
    cases hg : (decide (i = 0) && (Nat.beq xs.length ys.length && Nat.ble xs.length big)) with
    | false => rw [hg] at h; cases h
    | true =>
      rw [hg] at h
      simp only [Bool.and_eq_true, decide_eq_true_eq] at hg
      obtain ⟨rfl, hl, hx⟩ := hg
      refine ⟨xs.length + 1, ?_⟩
      exact (ind25 xs ys (Nat.eq_of_beq_eq_true hl) hx k xs.length 0 (by omega)).trans h
  · cases h
theorem e25 (xs : List Nat) (ys : List Nat) : runFn T1 a25 l25 Try.f25 [.vw none ⟨.f32, xs⟩, .vw none ⟨.f32, ys⟩] = (match (!(((xs.length : Int) : Int) == (ys.length : Int)) : Bool) with
  | true => some ⟨[.el (.sc (.bo false))], none⟩
  | false => (match (decide (0 = 0) && (Nat.beq xs.length ys.length && Nat.ble xs.length big) : Bool) with
    | true => (match (all2 sameW xs ys : Bool) with
      | true => some ⟨[.el (.sc (.bo true))], none⟩
      | false => some ⟨[.el (.sc (.bo false))], none⟩)
    | false => none)) := by kernel_rfl
theorem s25 (xs : List Nat) (ys : List Nat) : runFn T1 a25 l25 Try.f25 [.vw none ⟨.f32, xs⟩, .vw none ⟨.f32, ys⟩] = (match (Nat.beq xs.length ys.length : Bool) with
  | true => (match (Nat.ble xs.length big : Bool) with
    | true => some ⟨[.el (.sc (.bo (all2 sameW xs ys)))], none⟩
    | false => none)
  | false => some ⟨[.el (.sc (.bo false))], none⟩) := by
  rw [e25]
  cases hl : Nat.beq xs.length ys.length with
  | false =>
    have h1 : xs.length ≠ ys.length := fun e => by rw [e, Nat.beq_refl] at hl; cases hl
    have h2 : ((xs.length : Int) == (ys.length : Int)) = false := beq_false_of_ne (by omega)
    simp only [h2, Bool.not_false]
  | true =>
    have h1 := Nat.eq_of_beq_eq_true hl
    have h2 : ((xs.length : Int) == (ys.length : Int)) = true := beq_iff_eq.2 (by omega)
    simp only [h2, Bool.not_true]
    cases h : Nat.ble xs.length big with
    | false => simp
    | true => cases h3 : all2 sameW xs ys <;> simp
theorem c25 (xs : List Nat) (ys : List Nat) (k : List RV → R) (out : Out) (h : (match (Nat.beq xs.length ys.length : Bool) with
  | true => (match (Nat.ble xs.length big : Bool) with
    | true => k [.el (.sc (.bo (all2 sameW xs ys)))]
    | false => none)
  | false => k [.el (.sc (.bo false))]) = some out) : ∃ rs, Real Try.prog 25 ∧ COK Try.prog 25 [.vw none ⟨.f32, xs⟩, .vw none ⟨.f32, ys⟩] rs ∧ k rs = some out := by
  cases g0 : (Nat.beq xs.length ys.length : Bool) with
  | true =>
    rw [g0] at h
    cases g1 : (Nat.ble xs.length big : Bool) with
    | true =>
      rw [g1] at h
      exact ⟨_, real Try.func25 (by kernel_rfl), fn_ok tok1 (A := a25) (L := l25) (r := none) Try.func25 (by kernel_rfl) (by kernel_rfl) (loops1 (by kernel_rfl) lk25) (by rw [s25, g0, g1]), h⟩
    | false =>
      rw [g1] at h
      cases h
  | false =>
    rw [g0] at h
    exact ⟨_, real Try.func25 (by kernel_rfl), fn_ok tok1 (A := a25) (L := l25) (r := none) Try.func25 (by kernel_rfl) (by kernel_rfl) (loops1 (by kernel_rfl) lk25) (by rw [s25, g0]), h⟩

/-! spec.DifferencesOf -/
def a35 : Ann := ann [(5, [0, 1, 6, 26, 27], [6])] [4, 5] 0
def l35 : Loops := fun key s k => match key, s with
  | 5, ⟨[(0, .fv (.vw (some 0) ⟨.f32, xs⟩)), (1, .fv (.vw (some 1) ⟨.f32, ys⟩)), (6, .fv (.own 0)), (26, .fv (.el (.sc (.int .i64 n)))), (27, .fv (.el (.sc (.int .i64 i))))], [some ⟨22, ⟨.f32, zs⟩⟩]⟩ => (match (decide (n = (xs.length : Int)) && (decide (i = 0) && (Nat.beq xs.length ys.length && Nat.ble ((zs : List Nat).length + xs.length) big)) : Bool) with
    | true => (match (diffOk xs ys : Bool) with
      | true => k (.exit 0) ⟨[(6, .fv (.own 0))], [some ⟨22, ⟨.f32, (zs : List Nat) ++ diffs xs ys⟩⟩]⟩
      | false => k .ret ⟨[(4, .fv (.nil)), (5, .fv (.el (.sc (.bo false))))], []⟩)
    | false => none)
  | _, _ => none
theorem st35 (xs : List Nat) (ys : List Nat) (n : Int) (i : Int) (zs : List Nat) (m : Nat) (k : Ex → St → R) : iterK a35 [0, 1, 6, 26, 27] [6] (codeK T1 a35 l35 Try.f35.ntmps (loopAt Try.f35 0)) (m + 1) ⟨[(0, .fv (.vw (some 0) ⟨.f32, xs⟩)), (1, .fv (.vw (some 1) ⟨.f32, ys⟩)), (6, .fv (.own 0)), (26, .fv (.el (.sc (.int .i64 n)))), (27, .fv (.el (.sc (.int .i64 i))))], [some ⟨22, ⟨.f32, zs⟩⟩]⟩ k = (match (decide ((i : Int) < n) : Bool) with
  | true => (match (decide (0 ≤ (i : Int) ∧ (i : Int) < (xs.length : Int)) && true : Bool) with
    | true => (match (xs : List Nat)[Int.toNat i]? with
      | some x1 => (match (decide (0 ≤ (i : Int) ∧ (i : Int) < (ys.length : Int)) && true : Bool) with
        | true => (match (ys : List Nat)[Int.toNat i]? with
          | some x2 => (match (decide (0 ≤ (i : Int) ∧ (i : Int) < (xs.length : Int)) && true : Bool) with
            | true => (match (xs : List Nat)[Int.toNat i]? with
              | some x3 => (match (!(fin x3) : Bool) with
                | true => k .ret ⟨[(4, .fv (.nil)), (5, .fv (.el (.sc (.bo false))))], []⟩
                | false => (match (decide (0 ≤ (i : Int) ∧ (i : Int) < (ys.length : Int)) && true : Bool) with
                  | true => (match (ys : List Nat)[Int.toNat i]? with
                    | some x4 => (match (!(fin x4) : Bool) with
                      | true => k .ret ⟨[(4, .fv (.nil)), (5, .fv (.el (.sc (.bo false))))], []⟩
                      | false => (match (!(fin (fop .sub .f32 x1 x2)) : Bool) with
                        | true => k .ret ⟨[(4, .fv (.nil)), (5, .fv (.el (.sc (.bo false))))], []⟩
                        | false => (match (Nat.beq 22 22 && decide ((zs : List Nat).length + ([fop .sub .f32 x1 x2] : List Nat).length ≤ 1099511627776) : Bool) with
                          | true => iterK a35 [0, 1, 6, 26, 27] [6] (codeK T1 a35 l35 Try.f35.ntmps (loopAt Try.f35 0)) m ⟨[(0, .fv (.vw (some 0) ⟨.f32, xs⟩)), (1, .fv (.vw (some 1) ⟨.f32, ys⟩)), (6, .fv (.own 0)), (26, .fv (.el (.sc (.int .i64 n)))), (27, .fv (.el (.sc (.int .i64 (IntKind.i64.wrap (i + 1))))))], [some ⟨22, ⟨.f32, (zs : List Nat) ++ ([fop .sub .f32 x1 x2])⟩⟩]⟩ k
                          | false => none)))
                    | none => none)
                  | false => none))
              | none => none)
            | false => none)
          | none => none)
        | false => none)
      | none => none)
    | false => none)
  | false => k (.exit 0) ⟨[(6, .fv (.own 0))], [some ⟨22, ⟨.f32, zs⟩⟩]⟩) := by kernel_rfl
theorem ind35 (xs ys : List Nat) (hl : xs.length = ys.length) (hx : Nat.ble xs.length big = true) (k : Ex → St → R) : ∀ (m j : Nat) (zs : List Nat), zs.length + m ≤ 1099511627776 → j + m = xs.length → iterK a35 [0, 1, 6, 26, 27] [6] (codeK T1 a35 l35 Try.f35.ntmps (loopAt Try.f35 0)) (m + 1) ⟨[(0, .fv (.vw (some 0) ⟨.f32, xs⟩)), (1, .fv (.vw (some 1) ⟨.f32, ys⟩)), (6, .fv (.own 0)), (26, .fv (.el (.sc (.int .i64 (xs.length : Int))))), (27, .fv (.el (.sc (.int .i64 (j : Int)))))], [some ⟨22, ⟨.f32, zs⟩⟩]⟩ k =
    (match diffOk (xs.drop j) (ys.drop j) with
    | true => k (.exit 0) ⟨[(6, .fv (.own 0))], [some ⟨22, ⟨.f32, zs ++ diffs (xs.drop j) (ys.drop j)⟩⟩]⟩
    | false => k .ret ⟨[(4, .fv .nil), (5, .fv (.el (.sc (.bo false))))], []⟩) := by
  intro m
  induction m with
  | zero =>
    intro j zs hz hj
    have h1 : ¬ ((j : Int) < (xs.length : Int)) := by omega
    rw [st35, List.drop_of_length_le (show xs.length ≤ j by omega)]
    simp [h1, diffs, diffOk]
  | succ m ih =>
    intro j zs hz hj
    have hlt : j < xs.length := by omega
    have hlt2 : j < ys.length := by omega
    have h1 : ((j : Int) < (xs.length : Int)) := by omega
    have h12 : ((j : Int) < (ys.length : Int)) := by omega
    have h2 : (0 : Int) ≤ (j : Int) := by omega
    rw [st35, wrap_succ hlt hx]
    have h3 : xs[Int.toNat (j : Int)]? = some xs[j] := by simp [hlt]
    have h4 : ys[Int.toNat (j : Int)]? = some ys[j] := by simp [hlt2]
    have hg : zs.length + ([fop .sub .f32 xs[j] ys[j]] : List Nat).length ≤ 1099511627776 := by simp; omega
    have hbq : Nat.beq 22 22 = true := rfl
    have ih2 := ih (j + 1) (zs ++ [fop .sub .f32 xs[j] ys[j]]) (by simp; omega) (by omega)
    have h7 : zs ++ [fop .sub .f32 xs[j] ys[j]] ++ diffs (xs.drop (j + 1)) (ys.drop (j + 1)) = zs ++ diffs (xs[j] :: xs.drop (j + 1)) (ys[j] :: ys.drop (j + 1)) := by simp [diffs]
    rw [h7] at ih2
    rw [List.drop_eq_getElem_cons hlt, List.drop_eq_getElem_cons hlt2]
    simp only [h1, h12, h2, h3, h4, hg, hbq, and_self, decide_true, Bool.and_true, diffOk, ih2]
    cases fin xs[j] <;> cases fin ys[j] <;> cases fin (fop .sub .f32 xs[j] ys[j]) <;> simp

theorem lk35 : LOK T1 a35 l35 Try.f35.ntmps (loopAt Try.f35 0) := by
  intro ins outs hA s k out h
  have hA' : ([0, 1, 6, 26, 27], [6]) = (ins, outs) := Option.some.inj ((show a35.lp (firstRegion (loopAt Try.f35 0)) = some ([0, 1, 6, 26, 27], [6]) by kernel_rfl).symm.trans hA)
  cases hA'
  have hk : firstRegion (loopAt Try.f35 0) = 5 := by kernel_rfl
  rw [hk] at h
  unfold l35 at h
  split at h
  · rename_i xs ys n i zs _
    cases hg : (decide (n = (xs.length : Int)) && (decide (i = 0) && (Nat.beq xs.length ys.length && Nat.ble (zs.length + xs.length) big))) with
    | false => rw [hg] at h; cases h
    | true =>
      rw [hg] at h
      simp only [Bool.and_eq_true, decide_eq_true_eq] at hg
      obtain ⟨rfl, rfl, hl, hx⟩ := hg
      refine ⟨xs.length + 1, ?_⟩
      have hxl := Nat.le_of_ble_eq_true hx
      unfold big at hxl
      have hh := ind35 xs ys (Nat.eq_of_beq_eq_true hl) (Nat.ble_eq_true_of_le (by unfold big; omega)) k xs.length 0 zs (by omega) (by omega)
      simp only [List.drop_zero] at hh
      exact hh.trans h
  · cases h
theorem e35 (xs : List Nat) (ys : List Nat) : runFn T1 a35 l35 Try.f35 [.vw none ⟨.f32, xs⟩, .vw none ⟨.f32, ys⟩] = (match (decide (((xs.length : Int) : Int) < 1) : Bool) with
  | true => some ⟨[.nil, .el (.sc (.bo false))], none⟩
  | false => (match (decide (((xs.length : Int) : Int) > 32) : Bool) with
    | true => some ⟨[.nil, .el (.sc (.bo false))], none⟩
    | false => (match (!(((ys.length : Int) : Int) == (xs.length : Int)) : Bool) with
      | true => some ⟨[.nil, .el (.sc (.bo false))], none⟩
      | false => (match (decide ((xs.length : Int) = (xs.length : Int)) && (decide (0 = 0) && (Nat.beq xs.length ys.length && Nat.ble (([] : List Nat).length + xs.length) big)) : Bool) with
        | true => (match (diffOk xs ys : Bool) with
          | true => some ⟨[.fresh 22 ⟨.f32, ([] : List Nat) ++ diffs xs ys⟩, .el (.sc (.bo true))], none⟩
          | false => some ⟨[.nil, .el (.sc (.bo false))], none⟩)
        | false => none)))) := by kernel_rfl
theorem s35 (xs : List Nat) (ys : List Nat) : runFn T1 a35 l35 Try.f35 [.vw none ⟨.f32, xs⟩, .vw none ⟨.f32, ys⟩] = (match (decide (1 ≤ xs.length ∧ xs.length ≤ 32 ∧ ys.length = xs.length) && diffOk xs ys : Bool) with
  | true => some ⟨[.fresh 22 ⟨.f32, diffs xs ys⟩, .el (.sc (.bo true))], none⟩
  | false => some ⟨[.nil, .el (.sc (.bo false))], none⟩) := by
  rw [e35]
  have e1 : ((xs.length : Int) < 1) ↔ ¬ 1 ≤ xs.length := by omega
  have e2 : ((xs.length : Int) > 32) ↔ ¬ xs.length ≤ 32 := by omega
  have e3 : ((ys.length : Int) == (xs.length : Int)) = decide (ys.length = xs.length) := by
    rw [Bool.eq_iff_iff]; simp; omega
  rw [e3]
  by_cases h1 : 1 ≤ xs.length
  · by_cases h2 : xs.length ≤ 32
    · by_cases h3 : ys.length = xs.length
      · have hb : Nat.ble xs.length big = true := Nat.ble_eq_true_of_le (by unfold big; omega)
        have hb2 : Nat.ble ys.length big = true := Nat.ble_eq_true_of_le (by unfold big; omega)
        have hb3 : Nat.ble (0 + xs.length) big = true := Nat.ble_eq_true_of_le (by unfold big; omega)
        have hq : Nat.beq xs.length ys.length = true := by rw [h3]; exact Nat.beq_refl _
        cases hd : diffOk xs ys <;> simp [e1, e2, h1, h2, h3, hb, hb3, hq, hd]
      · simp [e1, e2, h1, h2, h3]
    · simp [e1, e2, h1, h2]
  · simp [e1, e2, h1]
theorem c35 (xs : List Nat) (ys : List Nat) (k : List RV → R) (out : Out) (h : k [.fresh 22 ⟨.f32, orNil (decide (1 ≤ xs.length ∧ xs.length ≤ 32 ∧ ys.length = xs.length) && diffOk xs ys) (diffs xs ys)⟩, .el (.sc (.bo (decide (1 ≤ xs.length ∧ xs.length ≤ 32 ∧ ys.length = xs.length) && diffOk xs ys)))] = some out) : ∃ rs, Real Try.prog 35 ∧ COK Try.prog 35 [.vw none ⟨.f32, xs⟩, .vw none ⟨.f32, ys⟩] rs ∧ k rs = some out := by
  cases g0 : (decide (1 ≤ xs.length ∧ xs.length ≤ 32 ∧ ys.length = xs.length) && diffOk xs ys : Bool) with
  | true =>
    rw [g0] at h
    exact ⟨_, real Try.func35 (by kernel_rfl), fn_ok tok1 (A := a35) (L := l35) (r := none) Try.func35 (by kernel_rfl) (by kernel_rfl) (loops1 (by kernel_rfl) lk35) (by rw [s35, g0]; rfl), h⟩
  | false =>
    rw [g0] at h
    exact ⟨_, real Try.func35 (by kernel_rfl), COK.nil (fn_ok tok1 (A := a35) (L := l35) (r := none) Try.func35 (by kernel_rfl) (by kernel_rfl) (loops1 (by kernel_rfl) lk35) (by rw [s35, g0])), h⟩

/-! spec.l02Above -/
theorem e53 (c : Nat) : runFn T1 none0 noL Try.f53 [.el (.sc (.fl .f32 c))] = (match (fin c : Bool) with
  | true => some ⟨[.el (.sc (.bo (fcmp .gtr .f32 c 0)))], none⟩
  | false => some ⟨[.el (.sc (.bo false))], none⟩) := by kernel_rfl
theorem s53 (c : Nat) : runFn T1 none0 noL Try.f53 [.el (.sc (.fl .f32 c))] = some ⟨[.el (.sc (.bo (above c)))], none⟩ := by
  rw [e53]
  unfold above
  cases fin c <;> rfl
theorem c53 (c : Nat) (k : List RV → R) (out : Out) (h : k [.el (.sc (.bo (above c)))] = some out) : ∃ rs, Real Try.prog 53 ∧ COK Try.prog 53 [.el (.sc (.fl .f32 c))] rs ∧ k rs = some out := by
  exact ⟨_, real Try.func53 (by kernel_rfl), fn_ok tok1 (A := none0) (L := noL) (r := none) Try.func53 (by kernel_rfl) (by kernel_rfl) (loops0 (by kernel_rfl)) (by rw [s53]), h⟩

/-! impl.checked -/
theorem e55 (c : Nat) : runFn T1 none0 noL Try.f55 [.el (.sc (.fl .f32 c))] = (match (!(fin c) : Bool) with
  | true => some ⟨[.el (.sc (.fl .f32 0)), .el (.sc (.bo false))], none⟩
  | false => some ⟨[.el (.sc (.fl .f32 c)), .el (.sc (.bo true))], none⟩) := by kernel_rfl
theorem s55 (c : Nat) : runFn T1 none0 noL Try.f55 [.el (.sc (.fl .f32 c))] = some ⟨[.el (.sc (.fl .f32 (numOf c))), .el (.sc (.bo (fin c)))], none⟩ := by
  rw [e55]
  unfold numOf
  cases fin c <;> rfl
theorem c55 (c : Nat) (k : List RV → R) (out : Out) (h : k [.el (.sc (.fl .f32 (numOf c))), .el (.sc (.bo (fin c)))] = some out) : ∃ rs, Real Try.prog 55 ∧ COK Try.prog 55 [.el (.sc (.fl .f32 c))] rs ∧ k rs = some out := by
  exact ⟨_, real Try.func55 (by kernel_rfl), fn_ok tok1 (A := none0) (L := noL) (r := none) Try.func55 (by kernel_rfl) (by kernel_rfl) (loops0 (by kernel_rfl)) (by rw [s55]), h⟩

/-! spec.l02Number -/
theorem e62 (c : Nat) : runFn T1 none0 noL Try.f62 [.el (.sc (.fl .f32 c))] = (match (!(fin c) : Bool) with
  | true => some ⟨[.el (.sc (.fl .f32 0)), .el (.sc (.bo false))], none⟩
  | false => some ⟨[.el (.sc (.fl .f32 c)), .el (.sc (.bo true))], none⟩) := by kernel_rfl
theorem s62 (c : Nat) : runFn T1 none0 noL Try.f62 [.el (.sc (.fl .f32 c))] = some ⟨[.el (.sc (.fl .f32 (numOf c))), .el (.sc (.bo (fin c)))], none⟩ := by
  rw [e62]
  unfold numOf
  cases fin c <;> rfl
theorem c62 (c : Nat) (k : List RV → R) (out : Out) (h : k [.el (.sc (.fl .f32 (numOf c))), .el (.sc (.bo (fin c)))] = some out) : ∃ rs, Real Try.prog 62 ∧ COK Try.prog 62 [.el (.sc (.fl .f32 c))] rs ∧ k rs = some out := by
  exact ⟨_, real Try.func62 (by kernel_rfl), fn_ok tok1 (A := none0) (L := noL) (r := none) Try.func62 (by kernel_rfl) (by kernel_rfl) (loops0 (by kernel_rfl)) (by rw [s62]), h⟩

/-! impl.areFinite$1 -/
theorem s73 (c : Nat) : runFn T1 none0 noL Try.f73 [.el (.sc (.fl .f32 c))] = some ⟨[.el (.sc (.bo (notFin c)))], none⟩ := by kernel_rfl
theorem c73 (c : Nat) (k : List RV → R) (out : Out) (h : k [.el (.sc (.bo (notFin c)))] = some out) : ∃ rs, Real Try.prog 73 ∧ COK Try.prog 73 [.el (.sc (.fl .f32 c))] rs ∧ k rs = some out := by
  exact ⟨_, real Try.func73 (by kernel_rfl), fn_ok tok1 (A := none0) (L := noL) (r := none) Try.func73 (by kernel_rfl) (by kernel_rfl) (loops0 (by kernel_rfl)) (by rw [s73]), h⟩

/-! impl.arePositive$1 -/
theorem e74 (c : Nat) : runFn T1 none0 noL Try.f74 [.el (.sc (.fl .f32 c))] = (match (!(fin c) : Bool) with
  | true => some ⟨[.el (.sc (.bo true))], none⟩
  | false => some ⟨[.el (.sc (.bo (fcmp .leq .f32 c 0)))], none⟩) := by kernel_rfl
theorem s74 (c : Nat) : runFn T1 none0 noL Try.f74 [.el (.sc (.fl .f32 c))] = some ⟨[.el (.sc (.bo (notPos c)))], none⟩ := by
  rw [e74]
  unfold notPos
  cases fin c <;> rfl
theorem c74 (c : Nat) (k : List RV → R) (out : Out) (h : k [.el (.sc (.bo (notPos c)))] = some out) : ∃ rs, Real Try.prog 74 ∧ COK Try.prog 74 [.el (.sc (.fl .f32 c))] rs ∧ k rs = some out := by
  exact ⟨_, real Try.func74 (by kernel_rfl), fn_ok tok1 (A := none0) (L := noL) (r := none) Try.func74 (by kernel_rfl) (by kernel_rfl) (loops0 (by kernel_rfl)) (by rw [s74]), h⟩

/-! spec.l02Finite -/
def a76 : Ann := ann [(2, [0, 3], [])] [2] 0
def l76 : Loops := fun key s k => match key, s with
  | 2, ⟨[(0, .fv (.vw (some 0) ⟨.f32, xs⟩)), (3, .fv (.el (.sc (.int .i64 i))))], []⟩ => (match ((decide (i = 0) && Nat.ble xs.length big) : Bool) with
    | true => (match (xs.all fin : Bool) with
      | true => k (.exit 0) ⟨[], []⟩
      | false => k .ret ⟨[(2, .fv (.el (.sc (.bo false))))], []⟩)
    | false => none)
  | _, _ => none
theorem st76 (xs : List Nat) (i : Int) (m : Nat) (k : Ex → St → R) : iterK a76 [0, 3] [] (codeK T1 a76 l76 Try.f76.ntmps (loopAt Try.f76 0)) (m + 1) ⟨[(0, .fv (.vw (some 0) ⟨.f32, xs⟩)), (3, .fv (.el (.sc (.int .i64 i))))], []⟩ k = (match (decide ((i : Int) < (xs.length : Int)) : Bool) with
  | true => (match (decide (0 ≤ (i : Int) ∧ (i : Int) < (xs.length : Int)) && true : Bool) with
    | true => (match (xs : List Nat)[Int.toNat i]? with
      | some x1 => (match (!(fin x1) : Bool) with
        | true => k .ret ⟨[(2, .fv (.el (.sc (.bo false))))], []⟩
        | false => iterK a76 [0, 3] [] (codeK T1 a76 l76 Try.f76.ntmps (loopAt Try.f76 0)) m ⟨[(0, .fv (.vw (some 0) ⟨.f32, xs⟩)), (3, .fv (.el (.sc (.int .i64 (IntKind.i64.wrap (i + 1))))))], []⟩ k)
      | none => none)
    | false => none)
  | false => k (.exit 0) ⟨[], []⟩) := by kernel_rfl
theorem ind76 (xs : List Nat)  (hx : Nat.ble xs.length big = true) (k : Ex → St → R) : ∀ (m j : Nat), j + m = xs.length → iterK a76 [0, 3] [] (codeK T1 a76 l76 Try.f76.ntmps (loopAt Try.f76 0)) (m + 1) ⟨[(0, .fv (.vw (some 0) ⟨.f32, xs⟩)), (3, .fv (.el (.sc (.int .i64 (j : Int)))))], []⟩ k =
    (match (xs.drop j).all fin with
    | true => k (.exit 0) ⟨[], []⟩
    | false => k .ret ⟨[(2, .fv (.el (.sc (.bo false))))], []⟩) := by
  intro m
  induction m with
  | zero =>
    intro j hj
    have h1 : ¬ ((j : Int) < (xs.length : Int)) := by omega
    rw [st76, List.drop_of_length_le (by omega)]
    simp [h1]
  | succ m ih =>
    intro j hj
    have hlt : j < xs.length := by omega
    have h1 : ((j : Int) < (xs.length : Int)) := by omega
    have h2 : (0 : Int) ≤ (j : Int) := by omega
    rw [st76, wrap_succ hlt hx]
    have h3 : xs[Int.toNat (j : Int)]? = some xs[j] := by simp [hlt]
    rw [List.drop_eq_getElem_cons hlt, List.all_cons, ih (j + 1) (by omega)]
    simp only [h1, h2, h3, and_self, decide_true, Bool.and_true]
    cases hp : fin xs[j] <;> simp [hp]

theorem lk76 : LOK T1 a76 l76 Try.f76.ntmps (loopAt Try.f76 0) := by
  intro ins outs hA s k out h
  have hA' : ([0, 3], []) = (ins, outs) := Option.some.inj ((show a76.lp (firstRegion (loopAt Try.f76 0)) = some ([0, 3], []) by kernel_rfl).symm.trans hA)
  cases hA'
  have hk : firstRegion (loopAt Try.f76 0) = 2 := by kernel_rfl
  rw [hk] at h
  unfold l76 at h
  split at h
  · rename_i xs i _
    cases hg : (decide (i = 0) && Nat.ble xs.length big) with
    | false => rw [hg] at h; cases h
    | true =>
      rw [hg] at h
      simp only [Bool.and_eq_true, decide_eq_true_eq] at hg
      obtain ⟨rfl, hx⟩ := hg
      refine ⟨xs.length + 1, ?_⟩
      exact (ind76 xs  hx k xs.length 0 (by omega)).trans h
  · cases h
theorem e76 (xs : List Nat) : runFn T1 a76 l76 Try.f76 [.vw none ⟨.f32, xs⟩] = (match ((decide (0 = 0) && Nat.ble xs.length big) : Bool) with
  | true => (match (xs.all fin : Bool) with
    | true => some ⟨[.el (.sc (.bo true))], none⟩
    | false => some ⟨[.el (.sc (.bo false))], none⟩)
  | false => none) := by kernel_rfl
theorem s76 (xs : List Nat) : runFn T1 a76 l76 Try.f76 [.vw none ⟨.f32, xs⟩] = (match (Nat.ble xs.length big : Bool) with
  | true => some ⟨[.el (.sc (.bo (xs.all fin)))], none⟩
  | false => none) := by
  rw [e76]
  cases h : Nat.ble xs.length big with
  | false => simp
  | true => cases h2 : xs.all fin <;> simp
theorem c76 (xs : List Nat) (k : List RV → R) (out : Out) (h : (match (Nat.ble xs.length big : Bool) with
  | true => k [.el (.sc (.bo (xs.all fin)))]
  | false => none) = some out) : ∃ rs, Real Try.prog 76 ∧ COK Try.prog 76 [.vw none ⟨.f32, xs⟩] rs ∧ k rs = some out := by
  cases g0 : (Nat.ble xs.length big : Bool) with
  | true =>
    rw [g0] at h
    exact ⟨_, real Try.func76 (by kernel_rfl), fn_ok tok1 (A := a76) (L := l76) (r := none) Try.func76 (by kernel_rfl) (by kernel_rfl) (loops1 (by kernel_rfl) lk76) (by rw [s76, g0]), h⟩
  | false =>
    rw [g0] at h
    cases h

def S2 : SFn := fun f args k => match f, args with
  | 25, [.vw none ⟨.f32, xs⟩, .vw none ⟨.f32, ys⟩] => (match (Nat.beq xs.length ys.length : Bool) with
    | true => (match (Nat.ble xs.length big : Bool) with
      | true => k [.el (.sc (.bo (all2 sameW xs ys)))]
      | false => none)
    | false => k [.el (.sc (.bo false))])
  | 35, [.vw none ⟨.f32, xs⟩, .vw none ⟨.f32, ys⟩] => k [.fresh 22 ⟨.f32, orNil (decide (1 ≤ xs.length ∧ xs.length ≤ 32 ∧ ys.length = xs.length) && diffOk xs ys) (diffs xs ys)⟩, .el (.sc (.bo (decide (1 ≤ xs.length ∧ xs.length ≤ 32 ∧ ys.length = xs.length) && diffOk xs ys)))]
  | 53, [.el (.sc (.fl .f32 c))] => k [.el (.sc (.bo (above c)))]
  | 55, [.el (.sc (.fl .f32 c))] => k [.el (.sc (.fl .f32 (numOf c))), .el (.sc (.bo (fin c)))]
  | 62, [.el (.sc (.fl .f32 c))] => k [.el (.sc (.fl .f32 (numOf c))), .el (.sc (.bo (fin c)))]
  | 73, [.el (.sc (.fl .f32 c))] => k [.el (.sc (.bo (notFin c)))]
  | 74, [.el (.sc (.fl .f32 c))] => k [.el (.sc (.bo (notPos c)))]
  | 76, [.vw none ⟨.f32, xs⟩] => (match (Nat.ble xs.length big : Bool) with
    | true => k [.el (.sc (.bo (xs.all fin)))]
    | false => none)
  | _, _ => S1 f args k
abbrev M2 : MFn := M1
def T2 : TT := tab.T S2 muts M2
theorem tok2 : TOK Try.prog T2 := by
  refine (tab_ok tabok).tok (fun f args k out h => ?_) (fun f vec args k out h => ?_)
  · change S2 f args k = some out at h
    unfold S2 at h
    split at h
    · exact c25 _ _ k out h
    · exact c35 _ _ k out h
    · exact c53 _ k out h
    · exact c55 _ k out h
    · exact c62 _ k out h
    · exact c73 _ k out h
    · exact c74 _ k out h
    · exact c76 _ k out h
    · exact tok1.S f args k out h
  · exact tok1.M f vec args k out h

end Go.Sm.Ytpnkcjlapkhclaa
