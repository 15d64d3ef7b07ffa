/- What the functions hand back: level 1. -/
import Derived.Test.YtpnkcjlapkhclaaD1
namespace Go.Sm.Ytpnkcjlapkhclaa
open Go Go.Sm Go.RowKit Go.Proofs

/-! laws.eqLine -/
theorem e48 (ap : Nat) (ah : Nat) (aw : Nat) (ak : Int) (bp : Nat) (bh : Nat) (bw : Nat) (bk : Int) : runFn T1 none0 noL Try.f48 [.el (.ag [(.fl .f32 ap), (.fl .f32 ah), (.fl .f32 aw), (.int .i64 ak)]), .el (.ag [(.fl .f32 bp), (.fl .f32 bh), (.fl .f32 bw), (.int .i64 bk)])] = (match (!(sameF (wid ap) (wid bp)) : Bool) with
  | true => some ⟨[.el (.sc (.bo false))], none⟩
  | false => (match (!(sameF (wid ah) (wid bh)) : Bool) with
    | true => some ⟨[.el (.sc (.bo false))], none⟩
    | false => (match (!(sameF (wid aw) (wid bw)) : Bool) with
      | true => some ⟨[.el (.sc (.bo false))], none⟩
      | false => (match (!((ak : Int) == bk) : Bool) with
        | true => some ⟨[.el (.sc (.bo false))], none⟩
        | false => some ⟨[.el (.sc (.bo true))], none⟩)))) := by kernel_rfl
theorem s48 (ap : Nat) (ah : Nat) (aw : Nat) (ak : Int) (bp : Nat) (bh : Nat) (bw : Nat) (bk : Int) : runFn T1 none0 noL Try.f48 [.el (.ag [(.fl .f32 ap), (.fl .f32 ah), (.fl .f32 aw), (.int .i64 ak)]), .el (.ag [(.fl .f32 bp), (.fl .f32 bh), (.fl .f32 bw), (.int .i64 bk)])] = some ⟨[.el (.sc (.bo (eqLineF ((⟨ap, ah, aw, ak⟩ : LineV)) ((⟨bp, bh, bw, bk⟩ : LineV)))))], none⟩ := by
  rw [e48]
  unfold eqLineF
  cases sameF (wid ap) (wid bp) <;> cases sameF (wid ah) (wid bh) <;> cases sameF (wid aw) (wid bw) <;> simp <;> (try split) <;> simp_all
theorem c48 (ap : Nat) (ah : Nat) (aw : Nat) (ak : Int) (bp : Nat) (bh : Nat) (bw : Nat) (bk : Int) (k : List RV → R) (out : Out) (h : k [.el (.sc (.bo (eqLineF ((⟨ap, ah, aw, ak⟩ : LineV)) ((⟨bp, bh, bw, bk⟩ : LineV)))))] = some out) : ∃ rs, Real Try.prog 48 ∧ COK Try.prog 48 [.el (.ag [(.fl .f32 ap), (.fl .f32 ah), (.fl .f32 aw), (.int .i64 ak)]), .el (.ag [(.fl .f32 bp), (.fl .f32 bh), (.fl .f32 bw), (.int .i64 bk)])] rs ∧ k rs = some out := by
  exact ⟨_, real Try.func48 (by kernel_rfl), fn_ok tok1 (A := none0) (L := noL) (r := none) Try.func48 (by kernel_rfl) (by kernel_rfl) (loops0 (by kernel_rfl)) (by rw [s48]), h⟩

/-! spec.l05Line -/
theorem e49 (lp : Nat) (lh : Nat) (lw : Nat) (lk : Int) : runFn T1 none0 noL Try.f49 [.pt ⟨.v ⟨.line, [⟨lp, lh, lw, lk⟩]⟩, 4, 0, 0⟩] = (match (fin lp : Bool) with
  | true => (match (fin lh : Bool) with
    | true => (match (fin lw : Bool) with
      | true => (match (fcmp .gtr .f32 lw 0 : Bool) with
        | true => some ⟨[.el (.sc (.bo (within lk 0 3)))], none⟩
        | false => some ⟨[.el (.sc (.bo false))], none⟩)
      | false => some ⟨[.el (.sc (.bo false))], none⟩)
    | false => some ⟨[.el (.sc (.bo false))], none⟩)
  | false => some ⟨[.el (.sc (.bo false))], none⟩) := by kernel_rfl
theorem s49 (lp : Nat) (lh : Nat) (lw : Nat) (lk : Int) : runFn T1 none0 noL Try.f49 [.pt ⟨.v ⟨.line, [⟨lp, lh, lw, lk⟩]⟩, 4, 0, 0⟩] = some ⟨[.el (.sc (.bo (okLine ((⟨lp, lh, lw, lk⟩ : LineV)))))], none⟩ := by
  rw [e49]
  unfold okLine above
  cases fin lp <;> cases fin lh <;> cases fin lw <;> cases fcmp .gtr .f32 lw 0 <;> simp
theorem c49 (lp : Nat) (lh : Nat) (lw : Nat) (lk : Int) (k : List RV → R) (out : Out) (h : k [.el (.sc (.bo (okLine ((⟨lp, lh, lw, lk⟩ : LineV)))))] = some out) : ∃ rs, Real Try.prog 49 ∧ COK Try.prog 49 [.pt ⟨.v ⟨.line, [⟨lp, lh, lw, lk⟩]⟩, 4, 0, 0⟩] rs ∧ k rs = some out := by
  exact ⟨_, real Try.func49 (by kernel_rfl), fn_ok tok1 (A := none0) (L := noL) (r := none) Try.func49 (by kernel_rfl) (by kernel_rfl) (loops0 (by kernel_rfl)) (by rw [s49]), h⟩

/-! impl.areFinite$1 -/
theorem s73 (c : Nat) : runFn T1 none0 noL Try.f73 [.el (.sc (.fl .f32 c))] = some ⟨[.el (.sc (.bo (notFin c)))], none⟩ := by kernel_rfl
theorem c73 (c : Nat) (k : List RV → R) (out : Out) (h : k [.el (.sc (.bo (notFin c)))] = some out) : ∃ rs, Real Try.prog 73 ∧ COK Try.prog 73 [.el (.sc (.fl .f32 c))] rs ∧ k rs = some out := by
  exact ⟨_, real Try.func73 (by kernel_rfl), fn_ok tok1 (A := none0) (L := noL) (r := none) Try.func73 (by kernel_rfl) (by kernel_rfl) (loops0 (by kernel_rfl)) (by rw [s73]), h⟩

/-! impl.arePositive$1 -/
theorem e74 (c : Nat) : runFn T1 none0 noL Try.f74 [.el (.sc (.fl .f32 c))] = (match (!(fin c) : Bool) with
  | true => some ⟨[.el (.sc (.bo true))], none⟩
  | false => some ⟨[.el (.sc (.bo (fcmp .leq .f32 c 0)))], none⟩) := by kernel_rfl
theorem s74 (c : Nat) : runFn T1 none0 noL Try.f74 [.el (.sc (.fl .f32 c))] = some ⟨[.el (.sc (.bo (notPos c)))], none⟩ := by
  rw [e74]
  unfold notPos
  cases fin c <;> rfl
theorem c74 (c : Nat) (k : List RV → R) (out : Out) (h : k [.el (.sc (.bo (notPos c)))] = some out) : ∃ rs, Real Try.prog 74 ∧ COK Try.prog 74 [.el (.sc (.fl .f32 c))] rs ∧ k rs = some out := by
  exact ⟨_, real Try.func74 (by kernel_rfl), fn_ok tok1 (A := none0) (L := noL) (r := none) Try.func74 (by kernel_rfl) (by kernel_rfl) (loops0 (by kernel_rfl)) (by rw [s74]), h⟩

def S2 : SFn := fun f args k => match f, args with
  | 48, [.el (.ag [(.fl .f32 ap), (.fl .f32 ah), (.fl .f32 aw), (.int .i64 ak)]), .el (.ag [(.fl .f32 bp), (.fl .f32 bh), (.fl .f32 bw), (.int .i64 bk)])] => k [.el (.sc (.bo (eqLineF ((⟨ap, ah, aw, ak⟩ : LineV)) ((⟨bp, bh, bw, bk⟩ : LineV)))))]
  | 49, [.pt ⟨.v ⟨.line, [⟨lp, lh, lw, lk⟩]⟩, 4, 0, 0⟩] => k [.el (.sc (.bo (okLine ((⟨lp, lh, lw, lk⟩ : LineV)))))]
  | 73, [.el (.sc (.fl .f32 c))] => k [.el (.sc (.bo (notFin c)))]
  | 74, [.el (.sc (.fl .f32 c))] => k [.el (.sc (.bo (notPos c)))]
  | _, _ => S1 f args k
abbrev M2 : MFn := M1
def T2 : TT := tab.T S2 muts M2
theorem tok2 : TOK Try.prog T2 := by
  refine (tab_ok tabok).tok (fun f args k out h => ?_) (fun f vec args k out h => ?_)
  · change S2 f args k = some out at h
    unfold S2 at h
    split at h
    · exact c48 _ _ _ _ _ _ _ _ k out h
    · exact c49 _ _ _ _ k out h
    · exact c73 _ k out h
    · exact c74 _ k out h
    · exact tok1.S f args k out h
  · exact tok1.M f vec args k out h

end Go.Sm.Ytpnkcjlapkhclaa
