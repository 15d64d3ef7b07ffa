/- What the functions hand back: level 7. -/
import Derived.Test.YtpckpfbjhnllbaaD7
namespace Go.Sm.Ytpckpfbjhnllbaa
open Go Go.Sm Go.RowKit Go.Proofs

/-! slices.IndexFunc[[]impl.Line,impl.Line] -/
def a59 : Ann := ann [(2, [0, 1, 7, 8], [])] [4] 0
def lp59 : St → (Ex → St → R) → R := fun s k => match s with
  | ⟨[(0, .fv (.vw (some 0) ⟨.line, xs⟩)), (1, .fv (.fn 47 [])), (7, .fv (.el (.sc (.int .i64 n)))), (8, .fv (.el (.sc (.int .i64 i))))], []⟩ => (match (decide (n = (xs.length : Int)) && (decide (i = 0) && Nat.ble xs.length big) : Bool) with
    | true => (match xs.findIdx? notLine with
      | some q => k .ret ⟨[(4, .fv (.el (.sc (.int .i64 ((q : Int))))))], []⟩
      | none => k (.exit 0) ⟨[], []⟩)
    | false => none)
  | _ => none
def l59 : Loops := fun key s k => bif Nat.beq key 2 then lp59 s k else none
theorem st59 (xs : List LineV) (n : Int) (i : Int) (m : Nat) (k : Ex → St → R) : iterK a59 [0, 1, 7, 8] [] (codeK T7 a59 l59 Try.f59.ntmps (loopAt Try.f59 0)) (m + 1) ⟨[(0, .fv (.vw (some 0) ⟨.line, xs⟩)), (1, .fv (.fn 47 [])), (7, .fv (.el (.sc (.int .i64 n)))), (8, .fv (.el (.sc (.int .i64 i))))], []⟩ k = (match (decide ((i : Int) < n) : Bool) with
  | true => (match (decide (0 ≤ (i : Int) ∧ (i : Int) < (xs.length : Int)) && true : Bool) with
    | true => (match (xs : List LineV)[Int.toNat i]? with
      | some x1 => (match (notLine x1 : Bool) with
        | true => k .ret ⟨[(4, .fv (.el (.sc (.int .i64 i))))], []⟩
        | false => iterK a59 [0, 1, 7, 8] [] (codeK T7 a59 l59 Try.f59.ntmps (loopAt Try.f59 0)) m ⟨[(0, .fv (.vw (some 0) ⟨.line, xs⟩)), (1, .fv (.fn 47 [])), (7, .fv (.el (.sc (.int .i64 n)))), (8, .fv (.el (.sc (.int .i64 (IntKind.i64.wrap (i + 1))))))], []⟩ k)
      | none => none)
    | false => none)
  | false => k (.exit 0) ⟨[], []⟩) := by kernel_rfl
theorem ind59 (xs : List LineV) (hx : Nat.ble xs.length big = true) (k : Ex → St → R) : ∀ (m j : Nat), j + m = xs.length → iterK a59 [0, 1, 7, 8] [] (codeK T7 a59 l59 Try.f59.ntmps (loopAt Try.f59 0)) (m + 1) ⟨[(0, .fv (.vw (some 0) ⟨.line, xs⟩)), (1, .fv (.fn 47 [])), (7, .fv (.el (.sc (.int .i64 (xs.length : Int))))), (8, .fv (.el (.sc (.int .i64 (j : Int)))))], []⟩ k =
    (match (xs.drop j).findIdx? notLine with
    | some q => k .ret ⟨[(4, .fv (.el (.sc (.int .i64 ((j + q : Nat) : Int)))))], []⟩
    | none => k (.exit 0) ⟨[], []⟩) := by
  intro m
  induction m with
  | zero =>
    intro j hj
    have h1 : ¬ ((j : Int) < (xs.length : Int)) := by omega
    rw [st59]
    have h2 : xs.drop j = [] := List.drop_of_length_le (by omega)
    simp [h1, h2]
  | succ m ih =>
    intro j hj
    have hlt : j < xs.length := by omega
    have h1 : ((j : Int) < (xs.length : Int)) := by omega
    have h2 : (0 : Int) ≤ (j : Int) := by omega
    rw [st59, wrap_succ hlt hx]
    have h3 : xs[Int.toNat (j : Int)]? = some xs[j] := by simp [hlt]
    rw [List.drop_eq_getElem_cons hlt, List.findIdx?_cons]
    simp only [h1, h2, h3, and_self, decide_true, Bool.and_true]
    cases hp : notLine xs[j] with
    | true => simp
    | false =>
      rw [ih (j + 1) (by omega)]
      cases (xs.drop (j + 1)).findIdx? notLine with
      | none => rfl
      | some q => simp only [Bool.false_eq_true, if_false, Option.map_some]; rw [show j + 1 + q = j + (q + 1) by omega]
theorem lk59 : LOK T7 a59 l59 Try.f59.ntmps (loopAt Try.f59 0) := by
  intro ins outs hA s k out h
  have hA' : ([0, 1, 7, 8], []) = (ins, outs) := Option.some.inj ((show a59.lp (firstRegion (loopAt Try.f59 0)) = some ([0, 1, 7, 8], []) by kernel_rfl).symm.trans hA)
  cases hA'
  have hk : firstRegion (loopAt Try.f59 0) = 2 := by kernel_rfl
  rw [hk] at h
  change lp59 s k = some out at h
  unfold lp59 at h
  split at h
  · rename_i xs n i
    cases hg : (decide (n = (xs.length : Int)) && (decide (i = 0) && Nat.ble xs.length big)) with
    | false => rw [hg] at h; cases h
    | true =>
      rw [hg] at h
      simp only [Bool.and_eq_true, decide_eq_true_eq] at hg
      obtain ⟨rfl, rfl, hx⟩ := hg
      refine ⟨xs.length + 1, ?_⟩
      have := ind59 xs hx k xs.length 0 (by omega)
      simp only [List.drop_zero, Nat.zero_add] at this
      exact this.trans h
  · cases h
theorem e59 (xs : List LineV) : runFn T7 a59 l59 Try.f59 [.vw none ⟨.line, xs⟩, .fn 47 []] = (match (decide ((xs.length : Int) = (xs.length : Int)) && (decide (0 = 0) && Nat.ble xs.length big) : Bool) with
  | true => (match xs.findIdx? notLine with
    | some q => some ⟨[.el (.sc (.int .i64 ((q : Int))))], none⟩
    | none => some ⟨[.el (.sc (.int .i64 ((-1))))], none⟩)
  | false => none) := by kernel_rfl
theorem s59 (xs : List LineV) : runFn T7 a59 l59 Try.f59 [.vw none ⟨.line, xs⟩, .fn 47 []] = (match (Nat.ble xs.length big : Bool) with
  | true => some ⟨[.el (.sc (.int .i64 (firstAt notLine xs)))], none⟩
  | false => none) := by
  rw [e59]
  unfold firstAt
  cases h : Nat.ble xs.length big with
  | false => simp [h]
  | true =>
    cases h2 : xs.findIdx? notLine with
    | some q => simp [h, h2]
    | none => simp [h, h2]
theorem c59 (xs : List LineV) (k : List RV → R) (out : Out) (h : (match (Nat.ble xs.length big : Bool) with
  | true => k [.el (.sc (.int .i64 (firstAt notLine xs)))]
  | false => none) = some out) : ∃ rs, Real Try.prog 59 ∧ COK Try.prog 59 [.vw none ⟨.line, xs⟩, .fn 47 []] rs ∧ k rs = some out := by
  cases g0 : (Nat.ble xs.length big : Bool) with
  | true =>
    rw [g0] at h
    exact ⟨_, real Try.func59 (by kernel_rfl), fn_ok tok7 (A := a59) (L := l59) (r := none) Try.func59 (by kernel_rfl) (by kernel_rfl) (loops1 (by kernel_rfl) lk59) (by rw [s59, g0]), h⟩
  | false =>
    rw [g0] at h
    cases h

def S8 : SFn := fun f args k => match f, args with
  | 59, [.vw none ⟨.line, xs⟩, .fn 47 []] => (match (Nat.ble xs.length big : Bool) with
    | true => k [.el (.sc (.int .i64 (firstAt notLine xs)))]
    | false => none)
  | _, _ => S7 f args k
abbrev M8 : MFn := M7
def T8 : TT := tab.T S8 muts M8
theorem tok8 : TOK Try.prog T8 := by
  refine (tab_ok tabok).tok (fun f args k out h => ?_) (fun f vec args k out h => ?_)
  · change S8 f args k = some out at h
    unfold S8 at h
    split at h
    · exact (fun k out h => cok_call (c59 _ k out h)) k out h
    · exact tok7.S f args k out h
  · exact tok7.M f vec args k out h

end Go.Sm.Ytpckpfbjhnllbaa
