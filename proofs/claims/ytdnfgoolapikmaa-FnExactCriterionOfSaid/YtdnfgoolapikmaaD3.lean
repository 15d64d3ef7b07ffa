/- What the functions hand back: level 2. -/
import Derived.Test.YtdnfgoolapikmaaD2
namespace Go.Sm.Ytdnfgoolapikmaa
open Go Go.Sm Go.RowKit Go.Proofs

/-! impl.LogNumber -/
theorem e82 (z : Nat) : runFn T2 none0 noL Try.f82 [.el (.sc (.fl .f32 z))] = (match (fcmp .eql .f32 z 0 : Bool) with
  | true => (match fconv .f64 .f32 (infOf ((-1))) with
    | some r1 => some ⟨[.el (.sc (.fl .f32 r1))], none⟩
    | none => none)
  | false => (match (fcmp .neq .f32 z z : Bool) with
    | true => (match fconv .f64 .f32 (nanOf .f64) with
      | some r2 => some ⟨[.el (.sc (.fl .f32 r2))], none⟩
      | none => none)
    | false => (match (fcmp .lss .f32 z 0 : Bool) with
      | true => (match fconv .f64 .f32 (nanOf .f64) with
        | some r3 => some ⟨[.el (.sc (.fl .f32 r3))], none⟩
        | none => none)
      | false => (match (!(fin z) : Bool) with
        | true => some ⟨[.el (.sc (.fl .f32 z))], none⟩
        | false => (match (lgIn (wid z) : Bool) with
          | true => (match fconv .f64 .f32 (logV (wid z)) with
            | some r4 => some ⟨[.el (.sc (.fl .f32 r4))], none⟩
            | none => none)
          | false => none))))) := by kernel_rfl
theorem s82 (z : Nat) (hg : (logOk z) = true) : runFn T2 none0 noL Try.f82 [.el (.sc (.fl .f32 z))] = some ⟨[.el (.sc (.fl .f32 (logF z)))], none⟩ := by
  rw [e82]
  rcases logOk_cases hg with ⟨n, v⟩ | ⟨n, v⟩ | e
  · obtain ⟨a1, a2, a3, a4⟩ := log_zero n v
    have hc : fconv .f64 .f32 (infOf (-1)) = some 4286578688 := by decide +kernel
    unfold logF
    simp only [a1, hc, cond_true]
  · obtain ⟨a1, a2, a3, a4, a5, a6, a7, a8, a9, a10⟩ := log_pos n v
    unfold logF
    simp only [a1, a2, a3, a4, a5, a10, Bool.or_self, Bool.not_true, cond_true, cond_false]
  · subst e
    kernel_rfl
theorem c82 (z : Nat) (k : List RV → R) (out : Out) (h : (match (logOk z : Bool) with
  | true => k [.el (.sc (.fl .f32 (logF z)))]
  | false => none) = some out) : ∃ rs, Real Try.prog 82 ∧ COK Try.prog 82 [.el (.sc (.fl .f32 z))] rs ∧ k rs = some out := by
  cases g0 : (logOk z : Bool) with
  | true =>
    rw [g0] at h
    exact ⟨_, real Try.func82 (by kernel_rfl), fn_ok tok2 (A := none0) (L := noL) (r := none) Try.func82 (by kernel_rfl) (by kernel_rfl) (loops0 (by kernel_rfl)) (by rw [s82 _ g0]), h⟩
  | false =>
    rw [g0] at h
    cases h

/-! slices.IndexFunc[[]float32,float32] -/
def a111b : Ann := ann [(2, [0, 1, 7, 8], [])] [4] 0
def lp111b : St → (Ex → St → R) → R := fun s k => match s with
  | ⟨[(0, .fv (.vw (some 0) ⟨.f32, xs⟩)), (1, .fv (.fn 99 [])), (7, .fv (.el (.sc (.int .i64 n)))), (8, .fv (.el (.sc (.int .i64 i))))], []⟩ => (match (decide (n = (xs.length : Int)) && (decide (i = 0) && Nat.ble xs.length big) : Bool) with
    | true => (match xs.findIdx? notPos with
      | some q => k .ret ⟨[(4, .fv (.el (.sc (.int .i64 ((q : Int))))))], []⟩
      | none => k (.exit 0) ⟨[], []⟩)
    | false => none)
  | _ => none
def l111b : Loops := fun key s k => bif Nat.beq key 2 then lp111b s k else none
theorem st111b (xs : List Nat) (n : Int) (i : Int) (m : Nat) (k : Ex → St → R) : iterK a111b [0, 1, 7, 8] [] (codeK T2 a111b l111b Try.f111.ntmps (loopAt Try.f111 0)) (m + 1) ⟨[(0, .fv (.vw (some 0) ⟨.f32, xs⟩)), (1, .fv (.fn 99 [])), (7, .fv (.el (.sc (.int .i64 n)))), (8, .fv (.el (.sc (.int .i64 i))))], []⟩ k = (match (decide ((i : Int) < n) : Bool) with
  | true => (match (decide (0 ≤ (i : Int) ∧ (i : Int) < (xs.length : Int)) && true : Bool) with
    | true => (match (xs : List Nat)[Int.toNat i]? with
      | some x1 => (match (notPos x1 : Bool) with
        | true => k .ret ⟨[(4, .fv (.el (.sc (.int .i64 i))))], []⟩
        | false => iterK a111b [0, 1, 7, 8] [] (codeK T2 a111b l111b Try.f111.ntmps (loopAt Try.f111 0)) m ⟨[(0, .fv (.vw (some 0) ⟨.f32, xs⟩)), (1, .fv (.fn 99 [])), (7, .fv (.el (.sc (.int .i64 n)))), (8, .fv (.el (.sc (.int .i64 (IntKind.i64.wrap (i + 1))))))], []⟩ k)
      | none => none)
    | false => none)
  | false => k (.exit 0) ⟨[], []⟩) := by kernel_rfl
theorem ind111b (xs : List Nat) (hx : Nat.ble xs.length big = true) (k : Ex → St → R) : ∀ (m j : Nat), j + m = xs.length → iterK a111b [0, 1, 7, 8] [] (codeK T2 a111b l111b Try.f111.ntmps (loopAt Try.f111 0)) (m + 1) ⟨[(0, .fv (.vw (some 0) ⟨.f32, xs⟩)), (1, .fv (.fn 99 [])), (7, .fv (.el (.sc (.int .i64 (xs.length : Int))))), (8, .fv (.el (.sc (.int .i64 (j : Int)))))], []⟩ k =
    (match (xs.drop j).findIdx? notPos with
    | some q => k .ret ⟨[(4, .fv (.el (.sc (.int .i64 ((j + q : Nat) : Int)))))], []⟩
    | none => k (.exit 0) ⟨[], []⟩) := by
  intro m
  induction m with
  | zero =>
    intro j hj
    have h1 : ¬ ((j : Int) < (xs.length : Int)) := by omega
    rw [st111b]
    have h2 : xs.drop j = [] := List.drop_of_length_le (by omega)
    simp [h1, h2]
  | succ m ih =>
    intro j hj
    have hlt : j < xs.length := by omega
    have h1 : ((j : Int) < (xs.length : Int)) := by omega
    have h2 : (0 : Int) ≤ (j : Int) := by omega
    rw [st111b, wrap_succ hlt hx]
    have h3 : xs[Int.toNat (j : Int)]? = some xs[j] := by simp [hlt]
    rw [List.drop_eq_getElem_cons hlt, List.findIdx?_cons]
    simp only [h1, h2, h3, and_self, decide_true, Bool.and_true]
    cases hp : notPos xs[j] with
    | true => simp
    | false =>
      rw [ih (j + 1) (by omega)]
      cases (xs.drop (j + 1)).findIdx? notPos with
      | none => rfl
      | some q => simp only [Bool.false_eq_true, if_false, Option.map_some]; rw [show j + 1 + q = j + (q + 1) by omega]
theorem lk111b : LOK T2 a111b l111b Try.f111.ntmps (loopAt Try.f111 0) := by
  intro ins outs hA s k out h
  have hA' : ([0, 1, 7, 8], []) = (ins, outs) := Option.some.inj ((show a111b.lp (firstRegion (loopAt Try.f111 0)) = some ([0, 1, 7, 8], []) by kernel_rfl).symm.trans hA)
  cases hA'
  have hk : firstRegion (loopAt Try.f111 0) = 2 := by kernel_rfl
  rw [hk] at h
  change lp111b s k = some out at h
  unfold lp111b at h
  split at h
  · rename_i xs n i
    cases hg : (decide (n = (xs.length : Int)) && (decide (i = 0) && Nat.ble xs.length big)) with
    | false => rw [hg] at h; cases h
    | true =>
      rw [hg] at h
      simp only [Bool.and_eq_true, decide_eq_true_eq] at hg
      obtain ⟨rfl, rfl, hx⟩ := hg
      refine ⟨xs.length + 1, ?_⟩
      have := ind111b xs hx k xs.length 0 (by omega)
      simp only [List.drop_zero, Nat.zero_add] at this
      exact this.trans h
  · cases h
theorem e111b (xs : List Nat) : runFn T2 a111b l111b Try.f111 [.vw none ⟨.f32, xs⟩, .fn 99 []] = (match (decide ((xs.length : Int) = (xs.length : Int)) && (decide (0 = 0) && Nat.ble xs.length big) : Bool) with
  | true => (match xs.findIdx? notPos with
    | some q => some ⟨[.el (.sc (.int .i64 ((q : Int))))], none⟩
    | none => some ⟨[.el (.sc (.int .i64 ((-1))))], none⟩)
  | false => none) := by kernel_rfl
theorem s111b (xs : List Nat) : runFn T2 a111b l111b Try.f111 [.vw none ⟨.f32, xs⟩, .fn 99 []] = (match (Nat.ble xs.length big : Bool) with
  | true => some ⟨[.el (.sc (.int .i64 (firstAt notPos xs)))], none⟩
  | false => none) := by
  rw [e111b]
  unfold firstAt
  cases h : Nat.ble xs.length big with
  | false => simp [h]
  | true =>
    cases h2 : xs.findIdx? notPos with
    | some q => simp [h, h2]
    | none => simp [h, h2]
theorem c111b (xs : List Nat) (k : List RV → R) (out : Out) (h : (match (Nat.ble xs.length big : Bool) with
  | true => k [.el (.sc (.int .i64 (firstAt notPos xs)))]
  | false => none) = some out) : ∃ rs, Real Try.prog 111 ∧ COK Try.prog 111 [.vw none ⟨.f32, xs⟩, .fn 99 []] rs ∧ k rs = some out := by
  cases g0 : (Nat.ble xs.length big : Bool) with
  | true =>
    rw [g0] at h
    exact ⟨_, real Try.func111 (by kernel_rfl), fn_ok tok2 (A := a111b) (L := l111b) (r := none) Try.func111 (by kernel_rfl) (by kernel_rfl) (loops1 (by kernel_rfl) lk111b) (by rw [s111b, g0]), h⟩
  | false =>
    rw [g0] at h
    cases h

/-! math.IsInf -/
theorem e116 (c : Nat) (n : Int) : runFn T2 none0 noL Try.f116 [.el (.sc (.fl .f64 c)), .el (.sc (.int .i64 n))] = (match ((n : Int) == 0 : Bool) with
  | true => (match (!isN .f64 c : Bool) with
    | true => some ⟨[.el (.sc (.bo (fcmp .gtr .f64 (fabs c) 9218868437227405311)))], none⟩
    | false => none)
  | false => (match (decide ((n : Int) < 0) : Bool) with
    | true => some ⟨[.el (.sc (.bo (fcmp .gtr .f64 (fneg .f64 c) 9218868437227405311)))], none⟩
    | false => some ⟨[.el (.sc (.bo (fcmp .gtr .f64 c 9218868437227405311)))], none⟩)) := by kernel_rfl
theorem s116 (c : Nat) (n : Int) (hg : (n == (1 : Int)) = true) : runFn T2 none0 noL Try.f116 [.el (.sc (.fl .f64 c)), .el (.sc (.int .i64 n))] = some ⟨[.el (.sc (.bo (fcmp .gtr .f64 c 9218868437227405311)))], none⟩ := by
  rw [e116]
  have e := eq_of_beq hg
  subst e
  rfl
theorem c116 (c : Nat) (n : Int) (k : List RV → R) (out : Out) (h : (match (n == (1 : Int) : Bool) with
  | true => k [.el (.sc (.bo (fcmp .gtr .f64 c 9218868437227405311)))]
  | false => none) = some out) : ∃ rs, Real Try.prog 116 ∧ COK Try.prog 116 [.el (.sc (.fl .f64 c)), .el (.sc (.int .i64 n))] rs ∧ k rs = some out := by
  cases g0 : (n == (1 : Int) : Bool) with
  | true =>
    rw [g0] at h
    exact ⟨_, real Try.func116 (by kernel_rfl), fn_ok tok2 (A := none0) (L := noL) (r := none) Try.func116 (by kernel_rfl) (by kernel_rfl) (loops0 (by kernel_rfl)) (by rw [s116 _ _ g0]), h⟩
  | false =>
    rw [g0] at h
    cases h

def S3 : SFn := fun f args k => match f, args with
  | 82, [.el (.sc (.fl .f32 z))] => (match (logOk z : Bool) with
    | true => k [.el (.sc (.fl .f32 (logF z)))]
    | false => none)
  | 111, [.vw none ⟨.f32, xs⟩, .fn 99 []] => (match (Nat.ble xs.length big : Bool) with
    | true => k [.el (.sc (.int .i64 (firstAt notPos xs)))]
    | false => none)
  | 116, [.el (.sc (.fl .f64 c)), .el (.sc (.int .i64 n))] => (match (n == (1 : Int) : Bool) with
    | true => k [.el (.sc (.bo (fcmp .gtr .f64 c 9218868437227405311)))]
    | false => none)
  | _, _ => S2 f args k
abbrev M3 : MFn := M2
def T3 : TT := tab.T S3 muts M3
theorem tok3 : TOK Try.prog T3 := by
  refine (tab_ok tabok).tok (fun f args k out h => ?_) (fun f vec args k out h => ?_)
  · change S3 f args k = some out at h
    unfold S3 at h
    split at h
    · exact (fun k out h => cok_call (c82 _ k out h)) k out h
    · exact (fun k out h => cok_call (c111b _ k out h)) k out h
    · exact (fun k out h => cok_call (c116 _ _ k out h)) k out h
    · exact tok2.S f args k out h
  · exact tok2.M f vec args k out h

end Go.Sm.Ytdnfgoolapikmaa
