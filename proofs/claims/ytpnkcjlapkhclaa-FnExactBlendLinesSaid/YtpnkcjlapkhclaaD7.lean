/- What the functions hand back: level 6. -/
import Derived.Test.YtpnkcjlapkhclaaD6
namespace Go.Sm.Ytpnkcjlapkhclaa
open Go Go.Sm Go.RowKit Go.Proofs

/-! impl.BlendLines -/
theorem e47 (ap : Nat) (ah : Nat) (aw : Nat) (ak : Int) (bp : Nat) (bh : Nat) (bw : Nat) (bk : Int) : runFn T6 none0 noL Try.f47 [.el (.ag [(.fl .f32 ap), (.fl .f32 ah), (.fl .f32 aw), (.int .i64 ak)]), .el (.ag [(.fl .f32 bp), (.fl .f32 bh), (.fl .f32 bw), (.int .i64 bk)])] = (match (!(okLine ((⟨ap, ah, aw, ak⟩ : LineV))) : Bool) with
  | true => some ⟨[.el (.ag [(.fl .f32 0), (.fl .f32 0), (.fl .f32 0), (.int .i64 0)]), .el (.sc (.bo false))], none⟩
  | false => (match (!(okLine ((⟨bp, bh, bw, bk⟩ : LineV))) : Bool) with
    | true => some ⟨[.el (.ag [(.fl .f32 0), (.fl .f32 0), (.fl .f32 0), (.int .i64 0)]), .el (.sc (.bo false))], none⟩
    | false => (match (fcmp .eql .f32 (fop .add .f32 ah bh) 0 : Bool) with
      | true => some ⟨[.el (.ag [(.fl .f32 0), (.fl .f32 0), (.fl .f32 0), (.int .i64 0)]), .el (.sc (.bo false))], none⟩
      | false => (match (!(okLine ((⟨fop .quo .f32 (fop .add .f32 (fop .mul .f32 ap ah) (fop .mul .f32 bp bh)) (fop .add .f32 ah bh), fop .add .f32 ah bh, fop .add .f32 (fmax .f32 aw bw) (mag (fop .mul .f32 1056964608 (fop .sub .f32 ap bp))), ak⟩ : LineV))) : Bool) with
        | true => some ⟨[.el (.ag [(.fl .f32 0), (.fl .f32 0), (.fl .f32 0), (.int .i64 0)]), .el (.sc (.bo false))], none⟩
        | false => some ⟨[.el (.ag [(.fl .f32 (fop .quo .f32 (fop .add .f32 (fop .mul .f32 ap ah) (fop .mul .f32 bp bh)) (fop .add .f32 ah bh))), (.fl .f32 (fop .add .f32 ah bh)), (.fl .f32 (fop .add .f32 (fmax .f32 aw bw) (mag (fop .mul .f32 1056964608 (fop .sub .f32 ap bp))))), (.int .i64 ak)]), .el (.sc (.bo true))], none⟩)))) := by kernel_rfl
theorem s47 (ap : Nat) (ah : Nat) (aw : Nat) (ak : Int) (bp : Nat) (bh : Nat) (bw : Nat) (bk : Int) : runFn T6 none0 noL Try.f47 [.el (.ag [(.fl .f32 ap), (.fl .f32 ah), (.fl .f32 aw), (.int .i64 ak)]), .el (.ag [(.fl .f32 bp), (.fl .f32 bh), (.fl .f32 bw), (.int .i64 bk)])] = some ⟨[.el (.ag [(.fl .f32 ((orLine (blendOk ((⟨ap, ah, aw, ak⟩ : LineV)) ((⟨bp, bh, bw, bk⟩ : LineV))) (blendX ((⟨ap, ah, aw, ak⟩ : LineV)) ((⟨bp, bh, bw, bk⟩ : LineV)))).p)), (.fl .f32 ((orLine (blendOk ((⟨ap, ah, aw, ak⟩ : LineV)) ((⟨bp, bh, bw, bk⟩ : LineV))) (blendX ((⟨ap, ah, aw, ak⟩ : LineV)) ((⟨bp, bh, bw, bk⟩ : LineV)))).h)), (.fl .f32 ((orLine (blendOk ((⟨ap, ah, aw, ak⟩ : LineV)) ((⟨bp, bh, bw, bk⟩ : LineV))) (blendX ((⟨ap, ah, aw, ak⟩ : LineV)) ((⟨bp, bh, bw, bk⟩ : LineV)))).w)), (.int .i64 ((orLine (blendOk ((⟨ap, ah, aw, ak⟩ : LineV)) ((⟨bp, bh, bw, bk⟩ : LineV))) (blendX ((⟨ap, ah, aw, ak⟩ : LineV)) ((⟨bp, bh, bw, bk⟩ : LineV)))).k))]), .el (.sc (.bo (blendOk ((⟨ap, ah, aw, ak⟩ : LineV)) ((⟨bp, bh, bw, bk⟩ : LineV)))))], none⟩ := by
  rw [e47]
  unfold blendOk orLine blendX mag
  cases okLine (⟨ap, ah, aw, ak⟩ : LineV) <;> cases okLine (⟨bp, bh, bw, bk⟩ : LineV) <;> simp <;> repeat' split
  all_goals simp_all
theorem c47 (ap : Nat) (ah : Nat) (aw : Nat) (ak : Int) (bp : Nat) (bh : Nat) (bw : Nat) (bk : Int) (k : List RV → R) (out : Out) (h : k [.el (.ag [(.fl .f32 ((orLine (blendOk ((⟨ap, ah, aw, ak⟩ : LineV)) ((⟨bp, bh, bw, bk⟩ : LineV))) (blendX ((⟨ap, ah, aw, ak⟩ : LineV)) ((⟨bp, bh, bw, bk⟩ : LineV)))).p)), (.fl .f32 ((orLine (blendOk ((⟨ap, ah, aw, ak⟩ : LineV)) ((⟨bp, bh, bw, bk⟩ : LineV))) (blendX ((⟨ap, ah, aw, ak⟩ : LineV)) ((⟨bp, bh, bw, bk⟩ : LineV)))).h)), (.fl .f32 ((orLine (blendOk ((⟨ap, ah, aw, ak⟩ : LineV)) ((⟨bp, bh, bw, bk⟩ : LineV))) (blendX ((⟨ap, ah, aw, ak⟩ : LineV)) ((⟨bp, bh, bw, bk⟩ : LineV)))).w)), (.int .i64 ((orLine (blendOk ((⟨ap, ah, aw, ak⟩ : LineV)) ((⟨bp, bh, bw, bk⟩ : LineV))) (blendX ((⟨ap, ah, aw, ak⟩ : LineV)) ((⟨bp, bh, bw, bk⟩ : LineV)))).k))]), .el (.sc (.bo (blendOk ((⟨ap, ah, aw, ak⟩ : LineV)) ((⟨bp, bh, bw, bk⟩ : LineV)))))] = some out) : ∃ rs, Real Try.prog 47 ∧ COK Try.prog 47 [.el (.ag [(.fl .f32 ap), (.fl .f32 ah), (.fl .f32 aw), (.int .i64 ak)]), .el (.ag [(.fl .f32 bp), (.fl .f32 bh), (.fl .f32 bw), (.int .i64 bk)])] rs ∧ k rs = some out := by
  exact ⟨_, real Try.func47 (by kernel_rfl), fn_ok tok6 (A := none0) (L := noL) (r := none) Try.func47 (by kernel_rfl) (by kernel_rfl) (loops0 (by kernel_rfl)) (by rw [s47]), h⟩

def S7 : SFn := fun f args k => match f, args with
  | 47, [.el (.ag [(.fl .f32 ap), (.fl .f32 ah), (.fl .f32 aw), (.int .i64 ak)]), .el (.ag [(.fl .f32 bp), (.fl .f32 bh), (.fl .f32 bw), (.int .i64 bk)])] => k [.el (.ag [(.fl .f32 ((orLine (blendOk ((⟨ap, ah, aw, ak⟩ : LineV)) ((⟨bp, bh, bw, bk⟩ : LineV))) (blendX ((⟨ap, ah, aw, ak⟩ : LineV)) ((⟨bp, bh, bw, bk⟩ : LineV)))).p)), (.fl .f32 ((orLine (blendOk ((⟨ap, ah, aw, ak⟩ : LineV)) ((⟨bp, bh, bw, bk⟩ : LineV))) (blendX ((⟨ap, ah, aw, ak⟩ : LineV)) ((⟨bp, bh, bw, bk⟩ : LineV)))).h)), (.fl .f32 ((orLine (blendOk ((⟨ap, ah, aw, ak⟩ : LineV)) ((⟨bp, bh, bw, bk⟩ : LineV))) (blendX ((⟨ap, ah, aw, ak⟩ : LineV)) ((⟨bp, bh, bw, bk⟩ : LineV)))).w)), (.int .i64 ((orLine (blendOk ((⟨ap, ah, aw, ak⟩ : LineV)) ((⟨bp, bh, bw, bk⟩ : LineV))) (blendX ((⟨ap, ah, aw, ak⟩ : LineV)) ((⟨bp, bh, bw, bk⟩ : LineV)))).k))]), .el (.sc (.bo (blendOk ((⟨ap, ah, aw, ak⟩ : LineV)) ((⟨bp, bh, bw, bk⟩ : LineV)))))]
  | _, _ => S6 f args k
abbrev M7 : MFn := M6
def T7 : TT := tab.T S7 muts M7
theorem tok7 : TOK Try.prog T7 := by
  refine (tab_ok tabok).tok (fun f args k out h => ?_) (fun f vec args k out h => ?_)
  · change S7 f args k = some out at h
    unfold S7 at h
    split at h
    · exact c47 _ _ _ _ _ _ _ _ k out h
    · exact tok6.S f args k out h
  · exact tok6.M f vec args k out h

end Go.Sm.Ytpnkcjlapkhclaa
