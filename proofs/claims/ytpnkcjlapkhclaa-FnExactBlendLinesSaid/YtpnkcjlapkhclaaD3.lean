/- What the functions hand back: level 2. -/
import Derived.Test.YtpnkcjlapkhclaaD2
namespace Go.Sm.Ytpnkcjlapkhclaa
open Go Go.Sm Go.RowKit Go.Proofs

/-! spec.BlendLines -/
theorem e46 (ap : Nat) (ah : Nat) (aw : Nat) (ak : Int) (bp : Nat) (bh : Nat) (bw : Nat) (bk : Int) : runFn T2 none0 noL Try.f46 [.el (.ag [(.fl .f32 ap), (.fl .f32 ah), (.fl .f32 aw), (.int .i64 ak)]), .el (.ag [(.fl .f32 bp), (.fl .f32 bh), (.fl .f32 bw), (.int .i64 bk)])] = (match (!(okLine ((⟨ap, ah, aw, ak⟩ : LineV))) : Bool) with
  | true => some ⟨[.el (.ag [(.fl .f32 0), (.fl .f32 0), (.fl .f32 0), (.int .i64 0)]), .el (.sc (.bo false))], none⟩
  | false => (match (!(okLine ((⟨bp, bh, bw, bk⟩ : LineV))) : Bool) with
    | true => some ⟨[.el (.ag [(.fl .f32 0), (.fl .f32 0), (.fl .f32 0), (.int .i64 0)]), .el (.sc (.bo false))], none⟩
    | false => (match (fcmp .eql .f32 (fop .add .f32 ah bh) 0 : Bool) with
      | true => some ⟨[.el (.ag [(.fl .f32 0), (.fl .f32 0), (.fl .f32 0), (.int .i64 0)]), .el (.sc (.bo false))], none⟩
      | false => (match (fcmp .lss .f32 (fop .mul .f32 1056964608 (fop .sub .f32 ap bp)) 0 : Bool) with
        | true => (match (!(okLine ((⟨fop .quo .f32 (fop .add .f32 (fop .mul .f32 ap ah) (fop .mul .f32 bp bh)) (fop .add .f32 ah bh), fop .add .f32 ah bh, fop .add .f32 (fmax .f32 aw bw) (fneg .f32 (fop .mul .f32 1056964608 (fop .sub .f32 ap bp))), ak⟩ : LineV))) : Bool) with
          | true => some ⟨[.el (.ag [(.fl .f32 0), (.fl .f32 0), (.fl .f32 0), (.int .i64 0)]), .el (.sc (.bo false))], none⟩
          | false => some ⟨[.el (.ag [(.fl .f32 (fop .quo .f32 (fop .add .f32 (fop .mul .f32 ap ah) (fop .mul .f32 bp bh)) (fop .add .f32 ah bh))), (.fl .f32 (fop .add .f32 ah bh)), (.fl .f32 (fop .add .f32 (fmax .f32 aw bw) (fneg .f32 (fop .mul .f32 1056964608 (fop .sub .f32 ap bp))))), (.int .i64 ak)]), .el (.sc (.bo true))], none⟩)
        | false => (match (!(okLine ((⟨fop .quo .f32 (fop .add .f32 (fop .mul .f32 ap ah) (fop .mul .f32 bp bh)) (fop .add .f32 ah bh), fop .add .f32 ah bh, fop .add .f32 (fmax .f32 aw bw) (fop .mul .f32 1056964608 (fop .sub .f32 ap bp)), ak⟩ : LineV))) : Bool) with
          | true => some ⟨[.el (.ag [(.fl .f32 0), (.fl .f32 0), (.fl .f32 0), (.int .i64 0)]), .el (.sc (.bo false))], none⟩
          | false => some ⟨[.el (.ag [(.fl .f32 (fop .quo .f32 (fop .add .f32 (fop .mul .f32 ap ah) (fop .mul .f32 bp bh)) (fop .add .f32 ah bh))), (.fl .f32 (fop .add .f32 ah bh)), (.fl .f32 (fop .add .f32 (fmax .f32 aw bw) (fop .mul .f32 1056964608 (fop .sub .f32 ap bp)))), (.int .i64 ak)]), .el (.sc (.bo true))], none⟩))))) := by kernel_rfl
theorem s46 (ap : Nat) (ah : Nat) (aw : Nat) (ak : Int) (bp : Nat) (bh : Nat) (bw : Nat) (bk : Int) : runFn T2 none0 noL Try.f46 [.el (.ag [(.fl .f32 ap), (.fl .f32 ah), (.fl .f32 aw), (.int .i64 ak)]), .el (.ag [(.fl .f32 bp), (.fl .f32 bh), (.fl .f32 bw), (.int .i64 bk)])] = some ⟨[.el (.ag [(.fl .f32 ((orLine (blendOk ((⟨ap, ah, aw, ak⟩ : LineV)) ((⟨bp, bh, bw, bk⟩ : LineV))) (blendX ((⟨ap, ah, aw, ak⟩ : LineV)) ((⟨bp, bh, bw, bk⟩ : LineV)))).p)), (.fl .f32 ((orLine (blendOk ((⟨ap, ah, aw, ak⟩ : LineV)) ((⟨bp, bh, bw, bk⟩ : LineV))) (blendX ((⟨ap, ah, aw, ak⟩ : LineV)) ((⟨bp, bh, bw, bk⟩ : LineV)))).h)), (.fl .f32 ((orLine (blendOk ((⟨ap, ah, aw, ak⟩ : LineV)) ((⟨bp, bh, bw, bk⟩ : LineV))) (blendX ((⟨ap, ah, aw, ak⟩ : LineV)) ((⟨bp, bh, bw, bk⟩ : LineV)))).w)), (.int .i64 ((orLine (blendOk ((⟨ap, ah, aw, ak⟩ : LineV)) ((⟨bp, bh, bw, bk⟩ : LineV))) (blendX ((⟨ap, ah, aw, ak⟩ : LineV)) ((⟨bp, bh, bw, bk⟩ : LineV)))).k))]), .el (.sc (.bo (blendOk ((⟨ap, ah, aw, ak⟩ : LineV)) ((⟨bp, bh, bw, bk⟩ : LineV)))))], none⟩ := by
  rw [e46]
  unfold blendOk orLine blendX mag
  cases okLine (⟨ap, ah, aw, ak⟩ : LineV) <;> cases okLine (⟨bp, bh, bw, bk⟩ : LineV) <;> simp <;> repeat' split
  all_goals simp_all
theorem c46 (ap : Nat) (ah : Nat) (aw : Nat) (ak : Int) (bp : Nat) (bh : Nat) (bw : Nat) (bk : Int) (k : List RV → R) (out : Out) (h : k [.el (.ag [(.fl .f32 ((orLine (blendOk ((⟨ap, ah, aw, ak⟩ : LineV)) ((⟨bp, bh, bw, bk⟩ : LineV))) (blendX ((⟨ap, ah, aw, ak⟩ : LineV)) ((⟨bp, bh, bw, bk⟩ : LineV)))).p)), (.fl .f32 ((orLine (blendOk ((⟨ap, ah, aw, ak⟩ : LineV)) ((⟨bp, bh, bw, bk⟩ : LineV))) (blendX ((⟨ap, ah, aw, ak⟩ : LineV)) ((⟨bp, bh, bw, bk⟩ : LineV)))).h)), (.fl .f32 ((orLine (blendOk ((⟨ap, ah, aw, ak⟩ : LineV)) ((⟨bp, bh, bw, bk⟩ : LineV))) (blendX ((⟨ap, ah, aw, ak⟩ : LineV)) ((⟨bp, bh, bw, bk⟩ : LineV)))).w)), (.int .i64 ((orLine (blendOk ((⟨ap, ah, aw, ak⟩ : LineV)) ((⟨bp, bh, bw, bk⟩ : LineV))) (blendX ((⟨ap, ah, aw, ak⟩ : LineV)) ((⟨bp, bh, bw, bk⟩ : LineV)))).k))]), .el (.sc (.bo (blendOk ((⟨ap, ah, aw, ak⟩ : LineV)) ((⟨bp, bh, bw, bk⟩ : LineV)))))] = some out) : ∃ rs, Real Try.prog 46 ∧ COK Try.prog 46 [.el (.ag [(.fl .f32 ap), (.fl .f32 ah), (.fl .f32 aw), (.int .i64 ak)]), .el (.ag [(.fl .f32 bp), (.fl .f32 bh), (.fl .f32 bw), (.int .i64 bk)])] rs ∧ k rs = some out := by
  exact ⟨_, real Try.func46 (by kernel_rfl), fn_ok tok2 (A := none0) (L := noL) (r := none) Try.func46 (by kernel_rfl) (by kernel_rfl) (loops0 (by kernel_rfl)) (by rw [s46]), h⟩

/-! slices.IndexFunc[[]float32,float32] -/
def a77 : Ann := ann [(2, [0, 1, 7, 8], [])] [4] 0
def l77 : Loops := fun key s k => match key, s with
  | 2, ⟨[(0, .fv (.vw (some 0) ⟨.f32, xs⟩)), (1, .fv (.fn 73 [])), (7, .fv (.el (.sc (.int .i64 n)))), (8, .fv (.el (.sc (.int .i64 i))))], []⟩ => (match (decide (n = (xs.length : Int)) && (decide (i = 0) && Nat.ble xs.length big) : Bool) with
    | true => (match xs.findIdx? notFin with
      | some q => k .ret ⟨[(4, .fv (.el (.sc (.int .i64 ((q : Int))))))], []⟩
      | none => k (.exit 0) ⟨[], []⟩)
    | false => none)
  | _, _ => none
theorem st77 (xs : List Nat) (n : Int) (i : Int) (m : Nat) (k : Ex → St → R) : iterK a77 [0, 1, 7, 8] [] (codeK T2 a77 l77 Try.f77.ntmps (loopAt Try.f77 0)) (m + 1) ⟨[(0, .fv (.vw (some 0) ⟨.f32, xs⟩)), (1, .fv (.fn 73 [])), (7, .fv (.el (.sc (.int .i64 n)))), (8, .fv (.el (.sc (.int .i64 i))))], []⟩ k = (match (decide ((i : Int) < n) : Bool) with
  | true => (match (decide (0 ≤ (i : Int) ∧ (i : Int) < (xs.length : Int)) && true : Bool) with
    | true => (match (xs : List Nat)[Int.toNat i]? with
      | some x1 => (match (notFin x1 : Bool) with
        | true => k .ret ⟨[(4, .fv (.el (.sc (.int .i64 i))))], []⟩
        | false => iterK a77 [0, 1, 7, 8] [] (codeK T2 a77 l77 Try.f77.ntmps (loopAt Try.f77 0)) m ⟨[(0, .fv (.vw (some 0) ⟨.f32, xs⟩)), (1, .fv (.fn 73 [])), (7, .fv (.el (.sc (.int .i64 n)))), (8, .fv (.el (.sc (.int .i64 (IntKind.i64.wrap (i + 1))))))], []⟩ k)
      | none => none)
    | false => none)
  | false => k (.exit 0) ⟨[], []⟩) := by kernel_rfl
theorem ind77 (xs : List Nat) (hx : Nat.ble xs.length big = true) (k : Ex → St → R) : ∀ (m j : Nat), j + m = xs.length → iterK a77 [0, 1, 7, 8] [] (codeK T2 a77 l77 Try.f77.ntmps (loopAt Try.f77 0)) (m + 1) ⟨[(0, .fv (.vw (some 0) ⟨.f32, xs⟩)), (1, .fv (.fn 73 [])), (7, .fv (.el (.sc (.int .i64 (xs.length : Int))))), (8, .fv (.el (.sc (.int .i64 (j : Int)))))], []⟩ k =
    (match (xs.drop j).findIdx? notFin with
    | some q => k .ret ⟨[(4, .fv (.el (.sc (.int .i64 ((j + q : Nat) : Int)))))], []⟩
    | none => k (.exit 0) ⟨[], []⟩) := by
  intro m
  induction m with
  | zero =>
    intro j hj
    have h1 : ¬ ((j : Int) < (xs.length : Int)) := by omega
    rw [st77]
    have h2 : xs.drop j = [] := List.drop_of_length_le (by omega)
    simp [h1, h2]
  | succ m ih =>
    intro j hj
    have hlt : j < xs.length := by omega
    have h1 : ((j : Int) < (xs.length : Int)) := by omega
    have h2 : (0 : Int) ≤ (j : Int) := by omega
    rw [st77, wrap_succ hlt hx]
    have h3 : xs[Int.toNat (j : Int)]? = some xs[j] := by simp [hlt]
    rw [List.drop_eq_getElem_cons hlt, List.findIdx?_cons]
    simp only [h1, h2, h3, and_self, decide_true, Bool.and_true]
    cases hp : notFin xs[j] with
    | true => simp
    | false =>
      rw [ih (j + 1) (by omega)]
      cases (xs.drop (j + 1)).findIdx? notFin with
      | none => rfl
      | some q => simp only [Bool.false_eq_true, if_false, Option.map_some]; rw [show j + 1 + q = j + (q + 1) by omega]
theorem lk77 : LOK T2 a77 l77 Try.f77.ntmps (loopAt Try.f77 0) := by
  intro ins outs hA s k out h
  have hA' : ([0, 1, 7, 8], []) = (ins, outs) := Option.some.inj ((show a77.lp (firstRegion (loopAt Try.f77 0)) = some ([0, 1, 7, 8], []) by kernel_rfl).symm.trans hA)
  cases hA'
  have hk : firstRegion (loopAt Try.f77 0) = 2 := by kernel_rfl
  rw [hk] at h
  unfold l77 at h
  split at h
  · rename_i xs n i _
    cases hg : (decide (n = (xs.length : Int)) && (decide (i = 0) && Nat.ble xs.length big)) with
    | false => rw [hg] at h; cases h
    | true =>
      rw [hg] at h
      simp only [Bool.and_eq_true, decide_eq_true_eq] at hg
      obtain ⟨rfl, rfl, hx⟩ := hg
      refine ⟨xs.length + 1, ?_⟩
      have := ind77 xs hx k xs.length 0 (by omega)
      simp only [List.drop_zero, Nat.zero_add] at this
      exact this.trans h
  · cases h
theorem e77 (xs : List Nat) : runFn T2 a77 l77 Try.f77 [.vw none ⟨.f32, xs⟩, .fn 73 []] = (match (decide ((xs.length : Int) = (xs.length : Int)) && (decide (0 = 0) && Nat.ble xs.length big) : Bool) with
  | true => (match xs.findIdx? notFin with
    | some q => some ⟨[.el (.sc (.int .i64 ((q : Int))))], none⟩
    | none => some ⟨[.el (.sc (.int .i64 ((-1))))], none⟩)
  | false => none) := by kernel_rfl
theorem s77 (xs : List Nat) : runFn T2 a77 l77 Try.f77 [.vw none ⟨.f32, xs⟩, .fn 73 []] = (match (Nat.ble xs.length big : Bool) with
  | true => some ⟨[.el (.sc (.int .i64 (firstAt notFin xs)))], none⟩
  | false => none) := by
  rw [e77]
  unfold firstAt
  cases h : Nat.ble xs.length big with
  | false => simp [h]
  | true =>
    cases h2 : xs.findIdx? notFin with
    | some q => simp [h, h2]
    | none => simp [h, h2]
theorem c77 (xs : List Nat) (k : List RV → R) (out : Out) (h : (match (Nat.ble xs.length big : Bool) with
  | true => k [.el (.sc (.int .i64 (firstAt notFin xs)))]
  | false => none) = some out) : ∃ rs, Real Try.prog 77 ∧ COK Try.prog 77 [.vw none ⟨.f32, xs⟩, .fn 73 []] rs ∧ k rs = some out := by
  cases g0 : (Nat.ble xs.length big : Bool) with
  | true =>
    rw [g0] at h
    exact ⟨_, real Try.func77 (by kernel_rfl), fn_ok tok2 (A := a77) (L := l77) (r := none) Try.func77 (by kernel_rfl) (by kernel_rfl) (loops1 (by kernel_rfl) lk77) (by rw [s77, g0]), h⟩
  | false =>
    rw [g0] at h
    cases h

/-! slices.IndexFunc[[]float32,float32] -/
def a77b : Ann := ann [(2, [0, 1, 7, 8], [])] [4] 0
def l77b : Loops := fun key s k => match key, s with
  | 2, ⟨[(0, .fv (.vw (some 0) ⟨.f32, xs⟩)), (1, .fv (.fn 74 [])), (7, .fv (.el (.sc (.int .i64 n)))), (8, .fv (.el (.sc (.int .i64 i))))], []⟩ => (match (decide (n = (xs.length : Int)) && (decide (i = 0) && Nat.ble xs.length big) : Bool) with
    | true => (match xs.findIdx? notPos with
      | some q => k .ret ⟨[(4, .fv (.el (.sc (.int .i64 ((q : Int))))))], []⟩
      | none => k (.exit 0) ⟨[], []⟩)
    | false => none)
  | _, _ => none
theorem st77b (xs : List Nat) (n : Int) (i : Int) (m : Nat) (k : Ex → St → R) : iterK a77b [0, 1, 7, 8] [] (codeK T2 a77b l77b Try.f77.ntmps (loopAt Try.f77 0)) (m + 1) ⟨[(0, .fv (.vw (some 0) ⟨.f32, xs⟩)), (1, .fv (.fn 74 [])), (7, .fv (.el (.sc (.int .i64 n)))), (8, .fv (.el (.sc (.int .i64 i))))], []⟩ k = (match (decide ((i : Int) < n) : Bool) with
  | true => (match (decide (0 ≤ (i : Int) ∧ (i : Int) < (xs.length : Int)) && true : Bool) with
    | true => (match (xs : List Nat)[Int.toNat i]? with
      | some x1 => (match (notPos x1 : Bool) with
        | true => k .ret ⟨[(4, .fv (.el (.sc (.int .i64 i))))], []⟩
        | false => iterK a77b [0, 1, 7, 8] [] (codeK T2 a77b l77b Try.f77.ntmps (loopAt Try.f77 0)) m ⟨[(0, .fv (.vw (some 0) ⟨.f32, xs⟩)), (1, .fv (.fn 74 [])), (7, .fv (.el (.sc (.int .i64 n)))), (8, .fv (.el (.sc (.int .i64 (IntKind.i64.wrap (i + 1))))))], []⟩ k)
      | none => none)
    | false => none)
  | false => k (.exit 0) ⟨[], []⟩) := by kernel_rfl
theorem ind77b (xs : List Nat) (hx : Nat.ble xs.length big = true) (k : Ex → St → R) : ∀ (m j : Nat), j + m = xs.length → iterK a77b [0, 1, 7, 8] [] (codeK T2 a77b l77b Try.f77.ntmps (loopAt Try.f77 0)) (m + 1) ⟨[(0, .fv (.vw (some 0) ⟨.f32, xs⟩)), (1, .fv (.fn 74 [])), (7, .fv (.el (.sc (.int .i64 (xs.length : Int))))), (8, .fv (.el (.sc (.int .i64 (j : Int)))))], []⟩ k =
    (match (xs.drop j).findIdx? notPos with
    | some q => k .ret ⟨[(4, .fv (.el (.sc (.int .i64 ((j + q : Nat) : Int)))))], []⟩
    | none => k (.exit 0) ⟨[], []⟩) := by
  intro m
  induction m with
  | zero =>
    intro j hj
    have h1 : ¬ ((j : Int) < (xs.length : Int)) := by omega
    rw [st77b]
    have h2 : xs.drop j = [] := List.drop_of_length_le (by omega)
    simp [h1, h2]
  | succ m ih =>
    intro j hj
    have hlt : j < xs.length := by omega
    have h1 : ((j : Int) < (xs.length : Int)) := by omega
    have h2 : (0 : Int) ≤ (j : Int) := by omega
    rw [st77b, wrap_succ hlt hx]
    have h3 : xs[Int.toNat (j : Int)]? = some xs[j] := by simp [hlt]
    rw [List.drop_eq_getElem_cons hlt, List.findIdx?_cons]
    simp only [h1, h2, h3, and_self, decide_true, Bool.and_true]
    cases hp : notPos xs[j] with
    | true => simp
    | false =>
      rw [ih (j + 1) (by omega)]
      cases (xs.drop (j + 1)).findIdx? notPos with
      | none => rfl
      | some q => simp only [Bool.false_eq_true, if_false, Option.map_some]; rw [show j + 1 + q = j + (q + 1) by omega]
theorem lk77b : LOK T2 a77b l77b Try.f77.ntmps (loopAt Try.f77 0) := by
  intro ins outs hA s k out h
  have hA' : ([0, 1, 7, 8], []) = (ins, outs) := Option.some.inj ((show a77b.lp (firstRegion (loopAt Try.f77 0)) = some ([0, 1, 7, 8], []) by kernel_rfl).symm.trans hA)
  cases hA'
  have hk : firstRegion (loopAt Try.f77 0) = 2 := by kernel_rfl
  rw [hk] at h
  unfold l77b at h
  split at h
  · rename_i xs n i _
    cases hg : (decide (n = (xs.length : Int)) && (decide (i = 0) && Nat.ble xs.length big)) with
    | false => rw [hg] at h; cases h
    | true =>
      rw [hg] at h
      simp only [Bool.and_eq_true, decide_eq_true_eq] at hg
      obtain ⟨rfl, rfl, hx⟩ := hg
      refine ⟨xs.length + 1, ?_⟩
      have := ind77b xs hx k xs.length 0 (by omega)
      simp only [List.drop_zero, Nat.zero_add] at this
      exact this.trans h
  · cases h
theorem e77b (xs : List Nat) : runFn T2 a77b l77b Try.f77 [.vw none ⟨.f32, xs⟩, .fn 74 []] = (match (decide ((xs.length : Int) = (xs.length : Int)) && (decide (0 = 0) && Nat.ble xs.length big) : Bool) with
  | true => (match xs.findIdx? notPos with
    | some q => some ⟨[.el (.sc (.int .i64 ((q : Int))))], none⟩
    | none => some ⟨[.el (.sc (.int .i64 ((-1))))], none⟩)
  | false => none) := by kernel_rfl
theorem s77b (xs : List Nat) : runFn T2 a77b l77b Try.f77 [.vw none ⟨.f32, xs⟩, .fn 74 []] = (match (Nat.ble xs.length big : Bool) with
  | true => some ⟨[.el (.sc (.int .i64 (firstAt notPos xs)))], none⟩
  | false => none) := by
  rw [e77b]
  unfold firstAt
  cases h : Nat.ble xs.length big with
  | false => simp [h]
  | true =>
    cases h2 : xs.findIdx? notPos with
    | some q => simp [h, h2]
    | none => simp [h, h2]
theorem c77b (xs : List Nat) (k : List RV → R) (out : Out) (h : (match (Nat.ble xs.length big : Bool) with
  | true => k [.el (.sc (.int .i64 (firstAt notPos xs)))]
  | false => none) = some out) : ∃ rs, Real Try.prog 77 ∧ COK Try.prog 77 [.vw none ⟨.f32, xs⟩, .fn 74 []] rs ∧ k rs = some out := by
  cases g0 : (Nat.ble xs.length big : Bool) with
  | true =>
    rw [g0] at h
    exact ⟨_, real Try.func77 (by kernel_rfl), fn_ok tok2 (A := a77b) (L := l77b) (r := none) Try.func77 (by kernel_rfl) (by kernel_rfl) (loops1 (by kernel_rfl) lk77b) (by rw [s77b, g0]), h⟩
  | false =>
    rw [g0] at h
    cases h

def S3 : SFn := fun f args k => match f, args with
  | 46, [.el (.ag [(.fl .f32 ap), (.fl .f32 ah), (.fl .f32 aw), (.int .i64 ak)]), .el (.ag [(.fl .f32 bp), (.fl .f32 bh), (.fl .f32 bw), (.int .i64 bk)])] => k [.el (.ag [(.fl .f32 ((orLine (blendOk ((⟨ap, ah, aw, ak⟩ : LineV)) ((⟨bp, bh, bw, bk⟩ : LineV))) (blendX ((⟨ap, ah, aw, ak⟩ : LineV)) ((⟨bp, bh, bw, bk⟩ : LineV)))).p)), (.fl .f32 ((orLine (blendOk ((⟨ap, ah, aw, ak⟩ : LineV)) ((⟨bp, bh, bw, bk⟩ : LineV))) (blendX ((⟨ap, ah, aw, ak⟩ : LineV)) ((⟨bp, bh, bw, bk⟩ : LineV)))).h)), (.fl .f32 ((orLine (blendOk ((⟨ap, ah, aw, ak⟩ : LineV)) ((⟨bp, bh, bw, bk⟩ : LineV))) (blendX ((⟨ap, ah, aw, ak⟩ : LineV)) ((⟨bp, bh, bw, bk⟩ : LineV)))).w)), (.int .i64 ((orLine (blendOk ((⟨ap, ah, aw, ak⟩ : LineV)) ((⟨bp, bh, bw, bk⟩ : LineV))) (blendX ((⟨ap, ah, aw, ak⟩ : LineV)) ((⟨bp, bh, bw, bk⟩ : LineV)))).k))]), .el (.sc (.bo (blendOk ((⟨ap, ah, aw, ak⟩ : LineV)) ((⟨bp, bh, bw, bk⟩ : LineV)))))]
  | 77, [.vw none ⟨.f32, xs⟩, .fn 73 []] => (match (Nat.ble xs.length big : Bool) with
    | true => k [.el (.sc (.int .i64 (firstAt notFin xs)))]
    | false => none)
  | 77, [.vw none ⟨.f32, xs⟩, .fn 74 []] => (match (Nat.ble xs.length big : Bool) with
    | true => k [.el (.sc (.int .i64 (firstAt notPos xs)))]
    | false => none)
  | _, _ => S2 f args k
abbrev M3 : MFn := M2
def T3 : TT := tab.T S3 muts M3
theorem tok3 : TOK Try.prog T3 := by
  refine (tab_ok tabok).tok (fun f args k out h => ?_) (fun f vec args k out h => ?_)
  · change S3 f args k = some out at h
    unfold S3 at h
    split at h
    · exact c46 _ _ _ _ _ _ _ _ k out h
    · exact c77 _ k out h
    · exact c77b _ k out h
    · exact tok2.S f args k out h
  · exact tok2.M f vec args k out h

end Go.Sm.Ytpnkcjlapkhclaa
