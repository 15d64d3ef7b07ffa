/- What the functions hand back: level 3. -/
import Derived.Test.YtngcejakoaoojaaD3
namespace Go.Sm.Ytngcejakoaoojaa
open Go Go.Sm Go.RowKit Go.Proofs

/-! spec.SameLines -/
def a9 : Ann := ann [(4, [0, 1, 12, 13], [])] [4] 0
def lp9 : St → (Ex → St → R) → R := fun s k => match s with
  | ⟨[(0, .fv (.vw (some 0) ⟨.line, xs⟩)), (1, .fv (.vw (some 1) ⟨.line, ys⟩)), (12, .fv (.el (.sc (.int .i64 n)))), (13, .fv (.el (.sc (.int .i64 i))))], []⟩ => (match ((decide (n = (xs.length : Int)) && (decide (i = 0) && (Nat.beq xs.length ys.length && (Nat.ble xs.length big && (xs.all wordsL && ys.all wordsL))))) : Bool) with
    | true => (match (all2 sameLn xs ys : Bool) with
      | true => k (.exit 0) ⟨[], []⟩
      | false => k .ret ⟨[(4, .fv (.el (.sc (.bo false))))], []⟩)
    | false => none)
  | _ => none
def l9 : Loops := fun key s k => bif Nat.beq key 4 then lp9 s k else none
theorem st9 (xs : List LineV) (ys : List LineV) (n : Int) (i : Int) (m : Nat) (k : Ex → St → R) : iterK a9 [0, 1, 12, 13] [] (codeK T3 a9 l9 Try.f9.ntmps (loopAt Try.f9 0)) (m + 1) ⟨[(0, .fv (.vw (some 0) ⟨.line, xs⟩)), (1, .fv (.vw (some 1) ⟨.line, ys⟩)), (12, .fv (.el (.sc (.int .i64 n)))), (13, .fv (.el (.sc (.int .i64 i))))], []⟩ k = (match (decide ((i : Int) < n) : Bool) with
  | true => (match (decide (0 ≤ (i : Int) ∧ (i : Int) < (xs.length : Int)) && true : Bool) with
    | true => (match (xs : List LineV)[Int.toNat i]? with
      | some x1 => (match (decide (0 ≤ (i : Int) ∧ (i : Int) < (ys.length : Int)) && true : Bool) with
        | true => (match (ys : List LineV)[Int.toNat i]? with
          | some x2 => (match (decide (x1.p < 4294967296) && decide (x2.p < 4294967296) : Bool) with
            | true => (match (!(sameBits x1.p x2.p) : Bool) with
              | true => k .ret ⟨[(4, .fv (.el (.sc (.bo false))))], []⟩
              | false => (match (decide (0 ≤ (i : Int) ∧ (i : Int) < (xs.length : Int)) && true : Bool) with
                | true => (match (xs : List LineV)[Int.toNat i]? with
                  | some x3 => (match (decide (0 ≤ (i : Int) ∧ (i : Int) < (ys.length : Int)) && true : Bool) with
                    | true => (match (ys : List LineV)[Int.toNat i]? with
                      | some x4 => (match (decide (x3.h < 4294967296) && decide (x4.h < 4294967296) : Bool) with
                        | true => (match (!(sameBits x3.h x4.h) : Bool) with
                          | true => k .ret ⟨[(4, .fv (.el (.sc (.bo false))))], []⟩
                          | false => (match (decide (0 ≤ (i : Int) ∧ (i : Int) < (xs.length : Int)) && true : Bool) with
                            | true => (match (xs : List LineV)[Int.toNat i]? with
                              | some x5 => (match (decide (0 ≤ (i : Int) ∧ (i : Int) < (ys.length : Int)) && true : Bool) with
                                | true => (match (ys : List LineV)[Int.toNat i]? with
                                  | some x6 => (match (decide (x5.w < 4294967296) && decide (x6.w < 4294967296) : Bool) with
                                    | true => (match (!(sameBits x5.w x6.w) : Bool) with
                                      | true => k .ret ⟨[(4, .fv (.el (.sc (.bo false))))], []⟩
                                      | false => (match (decide (0 ≤ (i : Int) ∧ (i : Int) < (xs.length : Int)) && true : Bool) with
                                        | true => (match (xs : List LineV)[Int.toNat i]? with
                                          | some x7 => (match (decide (0 ≤ (i : Int) ∧ (i : Int) < (ys.length : Int)) && true : Bool) with
                                            | true => (match (ys : List LineV)[Int.toNat i]? with
                                              | some x8 => (match (!((x7.k : Int) == x8.k) : Bool) with
                                                | true => k .ret ⟨[(4, .fv (.el (.sc (.bo false))))], []⟩
                                                | false => iterK a9 [0, 1, 12, 13] [] (codeK T3 a9 l9 Try.f9.ntmps (loopAt Try.f9 0)) m ⟨[(0, .fv (.vw (some 0) ⟨.line, xs⟩)), (1, .fv (.vw (some 1) ⟨.line, ys⟩)), (12, .fv (.el (.sc (.int .i64 n)))), (13, .fv (.el (.sc (.int .i64 (IntKind.i64.wrap (i + 1))))))], []⟩ k)
                                              | none => none)
                                            | false => none)
                                          | none => none)
                                        | false => none))
                                    | false => none)
                                  | none => none)
                                | false => none)
                              | none => none)
                            | false => none))
                        | false => none)
                      | none => none)
                    | false => none)
                  | none => none)
                | false => none))
            | false => none)
          | none => none)
        | false => none)
      | none => none)
    | false => none)
  | false => k (.exit 0) ⟨[], []⟩) := by kernel_rfl
theorem ind9 (xs ys : List LineV) (hwx : (xs.all wordsL) = true) (hwy : (ys.all wordsL) = true) (hl : xs.length = ys.length) (hx : Nat.ble xs.length big = true) (k : Ex → St → R) : ∀ (m j : Nat), j + m = xs.length → iterK a9 [0, 1, 12, 13] [] (codeK T3 a9 l9 Try.f9.ntmps (loopAt Try.f9 0)) (m + 1) ⟨[(0, .fv (.vw (some 0) ⟨.line, xs⟩)), (1, .fv (.vw (some 1) ⟨.line, ys⟩)), (12, .fv (.el (.sc (.int .i64 (xs.length : Int))))), (13, .fv (.el (.sc (.int .i64 (j : Int)))))], []⟩ k =
    (match all2 sameLn (xs.drop j) (ys.drop j) with
    | true => k (.exit 0) ⟨[], []⟩
    | false => k .ret ⟨[(4, .fv (.el (.sc (.bo false))))], []⟩) := by
  intro m
  induction m with
  | zero =>
    intro j hj
    have h1 : ¬ ((j : Int) < (xs.length : Int)) := by omega
    rw [st9, List.drop_of_length_le (by omega)]
    simp [h1, all2]
  | succ m ih =>
    intro j hj
    have hlt : j < xs.length := by omega
    have hlt2 : j < ys.length := by omega
    have h1 : ((j : Int) < (xs.length : Int)) := by omega
    have h12 : ((j : Int) < (ys.length : Int)) := by omega
    have h2 : (0 : Int) ≤ (j : Int) := by omega
    rw [st9, wrap_succ hlt hx]
    have h3 : xs[Int.toNat (j : Int)]? = some xs[j] := by simp [hlt]
    have h4 : ys[Int.toNat (j : Int)]? = some ys[j] := by simp [hlt2]
    rw [List.drop_eq_getElem_cons hlt, List.drop_eq_getElem_cons hlt2, ih (j + 1) (by omega)]
    simp only [h1, h12, h2, h3, h4, and_self, decide_true, Bool.and_true, all2]
    have wx := wordsL_get hwx hlt
    have wy := wordsL_get hwy hlt2
    simp only [wx.1, wx.2.1, wx.2.2, wy.1, wy.2.1, wy.2.2, decide_true, Bool.and_self]
    unfold sameLn
    cases sameBits xs[j].p ys[j].p <;> cases sameBits xs[j].h ys[j].h <;> cases sameBits xs[j].w ys[j].w <;> cases (xs[j].k == ys[j].k) <;> rfl

theorem lk9 : LOK T3 a9 l9 Try.f9.ntmps (loopAt Try.f9 0) := by
  intro ins outs hA s k out h
  have hA' : ([0, 1, 12, 13], []) = (ins, outs) := Option.some.inj ((show a9.lp (firstRegion (loopAt Try.f9 0)) = some ([0, 1, 12, 13], []) by kernel_rfl).symm.trans hA)
  cases hA'
  have hk : firstRegion (loopAt Try.f9 0) = 4 := by kernel_rfl
  rw [hk] at h
  change lp9 s k = some out at h
  unfold lp9 at h
  split at h
  · rename_i xs ys n i
    cases hg : (decide (n = (xs.length : Int)) && (decide (i = 0) && (Nat.beq xs.length ys.length && (Nat.ble xs.length big && (xs.all wordsL && ys.all wordsL))))) with
    | false => rw [hg] at h; cases h
    | true =>
      rw [hg] at h
      simp only [Bool.and_eq_true, decide_eq_true_eq] at hg
      obtain ⟨rfl, rfl, hl, hx, hwx, hwy⟩ := hg
      refine ⟨xs.length + 1, ?_⟩
      exact (ind9 xs ys hwx hwy (Nat.eq_of_beq_eq_true hl) hx k xs.length 0 (by omega)).trans h
  · cases h
theorem e9 (xs : List LineV) (ys : List LineV) : runFn T3 a9 l9 Try.f9 [.vw none ⟨.line, xs⟩, .vw none ⟨.line, ys⟩] = (match (!(((xs.length : Int) : Int) == (ys.length : Int)) : Bool) with
  | true => some ⟨[.el (.sc (.bo false))], none⟩
  | false => (match ((decide (((xs.length : Int)) = (xs.length : Int)) && (decide (0 = 0) && (Nat.beq xs.length ys.length && (Nat.ble xs.length big && (xs.all wordsL && ys.all wordsL))))) : Bool) with
    | true => (match (all2 sameLn xs ys : Bool) with
      | true => some ⟨[.el (.sc (.bo true))], none⟩
      | false => some ⟨[.el (.sc (.bo false))], none⟩)
    | false => none)) := by kernel_rfl
theorem s9 (xs : List LineV) (ys : List LineV) (hg : (xs.all wordsL && ys.all wordsL) = true) : runFn T3 a9 l9 Try.f9 [.vw none ⟨.line, xs⟩, .vw none ⟨.line, ys⟩] = (match (Nat.beq xs.length ys.length : Bool) with
  | true => (match (Nat.ble xs.length big : Bool) with
    | true => some ⟨[.el (.sc (.bo (all2 sameLn xs ys)))], none⟩
    | false => none)
  | false => some ⟨[.el (.sc (.bo false))], none⟩) := by
  rw [e9]
  rw [Bool.and_eq_true] at hg
  have l1 : ((xs.length : Int) == (ys.length : Int)) = Nat.beq xs.length ys.length := by
    rw [Bool.eq_iff_iff, beq_iff_eq, Nat.beq_eq]
    omega
  rw [l1]
  cases hl : Nat.beq xs.length ys.length <;> cases hx : Nat.ble xs.length big <;> cases h3 : all2 sameLn xs ys <;> simp [hl, hx, h3, hg.1, hg.2]
theorem c9 (xs : List LineV) (ys : List LineV) (k : List RV → R) (out : Out) (h : (match (xs.all wordsL && ys.all wordsL : Bool) with
  | true => (match (Nat.beq xs.length ys.length : Bool) with
    | true => (match (Nat.ble xs.length big : Bool) with
      | true => k [.el (.sc (.bo (all2 sameLn xs ys)))]
      | false => none)
    | false => k [.el (.sc (.bo false))])
  | false => none) = some out) : ∃ rs, Real Try.prog 9 ∧ COK Try.prog 9 [.vw none ⟨.line, xs⟩, .vw none ⟨.line, ys⟩] rs ∧ k rs = some out := by
  cases g0 : (xs.all wordsL && ys.all wordsL : Bool) with
  | true =>
    rw [g0] at h
    cases g1 : (Nat.beq xs.length ys.length : Bool) with
    | true =>
      rw [g1] at h
      cases g2 : (Nat.ble xs.length big : Bool) with
      | true =>
        rw [g2] at h
        exact ⟨_, real Try.func9 (by kernel_rfl), fn_ok tok3 (A := a9) (L := l9) (r := none) Try.func9 (by kernel_rfl) (by kernel_rfl) (loops1 (by kernel_rfl) lk9) (by rw [s9 _ _ g0, g1, g2]), h⟩
      | false =>
        rw [g2] at h
        cases h
    | false =>
      rw [g1] at h
      exact ⟨_, real Try.func9 (by kernel_rfl), fn_ok tok3 (A := a9) (L := l9) (r := none) Try.func9 (by kernel_rfl) (by kernel_rfl) (loops1 (by kernel_rfl) lk9) (by rw [s9 _ _ g0, g1]), h⟩
  | false =>
    rw [g0] at h
    cases h

/-! impl.SameLines$1 -/
theorem e36 (ap : Nat) (ah : Nat) (aw : Nat) (ak : Int) (bp : Nat) (bh : Nat) (bw : Nat) (bk : Int) : runFn T3 none0 noL Try.f36 [.el (.ag [(.fl .f32 ap), (.fl .f32 ah), (.fl .f32 aw), (.int .i64 ak)]), .el (.ag [(.fl .f32 bp), (.fl .f32 bh), (.fl .f32 bw), (.int .i64 bk)])] = (match (sameBits ap bp : Bool) with
  | true => (match (sameBits ah bh : Bool) with
    | true => (match (sameBits aw bw : Bool) with
      | true => some ⟨[.el (.sc (.bo ((ak : Int) == bk)))], none⟩
      | false => some ⟨[.el (.sc (.bo false))], none⟩)
    | false => some ⟨[.el (.sc (.bo false))], none⟩)
  | false => some ⟨[.el (.sc (.bo false))], none⟩) := by kernel_rfl
theorem s36 (ap : Nat) (ah : Nat) (aw : Nat) (ak : Int) (bp : Nat) (bh : Nat) (bw : Nat) (bk : Int) : runFn T3 none0 noL Try.f36 [.el (.ag [(.fl .f32 ap), (.fl .f32 ah), (.fl .f32 aw), (.int .i64 ak)]), .el (.ag [(.fl .f32 bp), (.fl .f32 bh), (.fl .f32 bw), (.int .i64 bk)])] = some ⟨[.el (.sc (.bo (sameLn ((⟨ap, ah, aw, ak⟩ : LineV)) ((⟨bp, bh, bw, bk⟩ : LineV)))))], none⟩ := by
  rw [e36]
  unfold sameLn
  cases sameBits ap bp <;> cases sameBits ah bh <;> cases sameBits aw bw <;> rfl
theorem c36 (ap : Nat) (ah : Nat) (aw : Nat) (ak : Int) (bp : Nat) (bh : Nat) (bw : Nat) (bk : Int) (k : List RV → R) (out : Out) (h : k [.el (.sc (.bo (sameLn ((⟨ap, ah, aw, ak⟩ : LineV)) ((⟨bp, bh, bw, bk⟩ : LineV)))))] = some out) : ∃ rs, Real Try.prog 36 ∧ COK Try.prog 36 [.el (.ag [(.fl .f32 ap), (.fl .f32 ah), (.fl .f32 aw), (.int .i64 ak)]), .el (.ag [(.fl .f32 bp), (.fl .f32 bh), (.fl .f32 bw), (.int .i64 bk)])] rs ∧ k rs = some out := by
  exact ⟨_, real Try.func36 (by kernel_rfl), fn_ok tok3 (A := none0) (L := noL) (r := none) Try.func36 (by kernel_rfl) (by kernel_rfl) (loops0 (by kernel_rfl)) (by rw [s36]), h⟩

def S4 : SFn := fun f args k => match f, args with
  | 9, [.vw none ⟨.line, xs⟩, .vw none ⟨.line, ys⟩] => (match (xs.all wordsL && ys.all wordsL : Bool) with
    | true => (match (Nat.beq xs.length ys.length : Bool) with
      | true => (match (Nat.ble xs.length big : Bool) with
        | true => k [.el (.sc (.bo (all2 sameLn xs ys)))]
        | false => none)
      | false => k [.el (.sc (.bo false))])
    | false => none)
  | 36, [.el (.ag [(.fl .f32 ap), (.fl .f32 ah), (.fl .f32 aw), (.int .i64 ak)]), .el (.ag [(.fl .f32 bp), (.fl .f32 bh), (.fl .f32 bw), (.int .i64 bk)])] => k [.el (.sc (.bo (sameLn ((⟨ap, ah, aw, ak⟩ : LineV)) ((⟨bp, bh, bw, bk⟩ : LineV)))))]
  | _, _ => S3 f args k
abbrev M4 : MFn := M3
def T4 : TT := tab.T S4 muts M4
theorem tok4 : TOK Try.prog T4 := by
  refine (tab_ok tabok).tok (fun f args k out h => ?_) (fun f vec args k out h => ?_)
  · change S4 f args k = some out at h
    unfold S4 at h
    split at h
    · exact (fun k out h => cok_call (c9 _ _ k out h)) k out h
    · exact (fun k out h => cok_call (c36 _ _ _ _ _ _ _ _ k out h)) k out h
    · exact tok3.S f args k out h
  · exact tok3.M f vec args k out h

end Go.Sm.Ytngcejakoaoojaa
