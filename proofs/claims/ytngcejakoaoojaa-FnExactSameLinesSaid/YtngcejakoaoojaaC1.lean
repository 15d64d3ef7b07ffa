/- Small helps for the functions of a program: a function without loops, with one loop; the plain functions that the bodies come to. -/
import Derived.Test.YtngcejakoaoojaaB9
namespace Go.Sm
open Go Go.RowKit

def loopBodies : Code → List Code
  | .seq a b => loopBodies a ++ loopBodies b
  | .cond _ a b => loopBodies a ++ loopBodies b
  | .block _ a => loopBodies a
  | .loop a => a :: loopBodies a
  | _ => []

def bodyOf (fn : Func) : Code := fn.body.getD .skip
def loopAt (fn : Func) (i : Nat) : Code := (loopBodies (bodyOf fn)).getD i .skip

def runFn (T : TT) (A : Ann) (L : Loops) (fn : Func) (args : List FV) : R := runF T A L fn.ntmps (bodyOf fn) fn.results.toList args
def runMn (T : TT) (A : Ann) (L : Loops) (fn : Func) (e : Nat) (vec : Vec) (args : List FV) : R := runM T A L fn.ntmps (bodyOf fn) fn.results.toList e vec args

def LOK (T : TT) (A : Ann) (L : Loops) (nt : Nat) (a : Code) : Prop :=
  ∀ ins outs, A.lp (firstRegion a) = some (ins, outs) → ∀ s k out, L (firstRegion a) s k = some out → ∃ n, iterK A ins outs (codeK T A L nt a) n s k = some out

section
variable {T : TT} {A : Ann} {L : Loops} {nt : Nat} {P : Program}

theorem loops_all : ∀ {c : Code}, (∀ b ∈ loopBodies c, LOK T A L nt b) → LoopsOk T A L nt c
  | .seq a b, h => ⟨loops_all fun x hx => h x (List.mem_append_left _ hx), loops_all fun x hx => h x (List.mem_append_right _ hx)⟩
  | .cond _ a b, h => ⟨loops_all fun x hx => h x (List.mem_append_left _ hx), loops_all fun x hx => h x (List.mem_append_right _ hx)⟩
  | .block _ a, h => loops_all (c := a) h
  | .loop a, h => ⟨h a (List.mem_cons_self), loops_all fun x hx => h x (List.mem_cons_of_mem _ hx)⟩
  | .skip, _ => trivial
  | .region .., _ => trivial
  | .ret, _ => trivial
  | .exit _, _ => trivial
  | .rangeFunc .., _ => trivial
  | .scope _, _ => trivial
  | .label _, _ => trivial
  | .goto _, _ => trivial
  | .refuse _, _ => trivial

def nLoops (fn : Func) : Nat := (loopBodies (bodyOf fn)).length

theorem loops0 {fn : Func} (h : nLoops fn = 0) : LoopsOk T A L nt (bodyOf fn) := loops_all fun b hb => by
  have : loopBodies (bodyOf fn) = [] := List.eq_nil_of_length_eq_zero h
  rw [this] at hb
  cases hb

theorem loops1 {fn : Func} (h : nLoops fn = 1) (h0 : LOK T A L nt (loopAt fn 0)) : LoopsOk T A L nt (bodyOf fn) := loops_all fun b hb => by
  unfold nLoops at h
  unfold loopAt at h0
  match hl : loopBodies (bodyOf fn), h with
  | [x], _ =>
    rw [hl] at hb h0
    rw [List.mem_singleton.1 hb]
    exact h0

theorem loops2 {fn : Func} (h : nLoops fn = 2) (h0 : LOK T A L nt (loopAt fn 0)) (h1 : LOK T A L nt (loopAt fn 1)) : LoopsOk T A L nt (bodyOf fn) := loops_all fun b hb => by
  unfold nLoops at h
  unfold loopAt at h0 h1
  match hl : loopBodies (bodyOf fn), h with
  | [x, y], _ =>
    rw [hl] at hb h0 h1
    simp only [List.mem_cons, List.not_mem_nil, or_false] at hb
    rcases hb with rfl | rfl
    · exact h0
    · exact h1

theorem fn_ok (hT : TOK P T) {f : Nat} {fn : Func} {args : List FV} {rs : List RV} {r : Option Row} (hf : P.funcs[f]? = some fn) (hb : fn.body.isSome = true) (hnt : Nat.ble args.length fn.ntmps = true) (hL : LoopsOk T A L fn.ntmps (bodyOf fn))
    (h : runFn T A L fn args = some ⟨rs, r⟩) : COK P f args rs := by
  have hb' : fn.body = some (bodyOf fn) := by
    unfold bodyOf
    cases hc : fn.body with
    | none => rw [hc] at hb; cases hb
    | some c => rfl
  exact runF_ok hT hf hb' rfl (Nat.le_of_ble_eq_true hnt) hL h

/-- A nil slice is an empty one, too. -/
theorem COK.nil {f : Nat} {args : List FV} {rs : List RV} {e : Nat} {k : K} (h : COK P f args (.nil :: rs)) : COK P f args (.fresh e ⟨k, []⟩ :: rs) := by
  intro w cargs hargs
  refine (h w cargs hargs).mono fun en w' ⟨vs, h1, h2, h3⟩ => ⟨vs, h1, h2, ?_⟩
  obtain ⟨hall, hap⟩ := h3
  match vs, hall with
  | v :: vs, hall =>
    have hv : v = .slice none 0 0 := hall.1
    refine ⟨⟨⟨[], ⟨by simp, .inl ⟨hv, rfl⟩⟩, trivial, fun g hg => by rw [hv] at hg; cases hg⟩, hall.2⟩, fun i j r r' x x' g hne hi hj hf hf' hx hx' hg => ?_⟩
    cases i with
    | zero =>
      simp at hx
      subst hx
      rw [hv] at hg
      cases hg
    | succ i =>
      cases j with
      | zero =>
        simp at hx'
        subst hx'
        rw [hv]
        intro h
        cases h
      | succ j => exact hap (i + 1) (j + 1) r r' x x' g hne (by simpa using hi) (by simpa using hj) hf hf' hx hx' hg

theorem mfn_ok (hT : TOK P T) {f : Nat} {fn : Func} {vec vec' : Vec} {args : List FV} {rs : List RV} (hf : P.funcs[f]? = some fn) (hb : fn.body.isSome = true) (hnt : Nat.ble (args.length + 1) fn.ntmps = true) (hL : LoopsOk T A L fn.ntmps (bodyOf fn)) (hA : 0 < A.nf)
    (hq : quietRV rs = true) (h : ∀ e, runMn T A L fn e vec args = some ⟨rs, some ⟨e, vec'⟩⟩) : CMOK P f vec args rs vec' := by
  have hb' : fn.body = some (bodyOf fn) := by
    unfold bodyOf
    cases hc : fn.body with
    | none => rw [hc] at hb; cases hb
    | some c => rfl
  exact runM_ok hT hf hb' rfl (Nat.le_of_ble_eq_true hnt) hL hA hq h

theorem real {f : Nat} {fn : Func} (hf : P.funcs[f]? = some fn) (h : (fn.body.isSome && !(fn.name == "runtime.NumGoroutine")) = true) : Real P f := by
  rw [Bool.and_eq_true] at h
  exact ⟨fn, hf, h.1, by simpa using h.2⟩

/-- Loops of a function: where each counts which slots. -/
def ann (lp : List (Nat × List Nat × List Nat)) (rets : List Nat) (nf : Nat) : Ann := ⟨look lp, rets, nf⟩
def noL : Loops := fun _ _ _ => none
def noS : SFn := fun _ _ _ => none
def noM : MFn := fun _ _ _ _ => none
def none0 : Ann := ⟨fun _ => none, [], 0⟩
end

/-- Lists longer than this are not spoken of. -/
def big : Nat := 1099511627776

/-! ### Plain functions -/

def fin (c : Nat) : Bool := fcmp .eql .f32 (fop .sub .f32 c c) 0
def above (c : Nat) : Bool := fin c && fcmp .gtr .f32 c 0
def notFin (c : Nat) : Bool := !fin c
def notPos (c : Nat) : Bool := !fin c || fcmp .leq .f32 c 0
def within (n a b : Int) : Bool := decide (n ≥ a) && decide (n ≤ b)
def mag (c : Nat) : Nat := match fcmp .lss .f32 c 0 with
  | true => fneg .f32 c
  | false => c
def sameF (a b : Nat) : Bool := match fcmp .neq .f64 a a || fcmp .neq .f64 b b with
  | true => fcmp .neq .f64 a a && fcmp .neq .f64 b b
  | false => match fcmp .eql .f64 a 0 && fcmp .eql .f64 b 0 with
    | true => fcmp .gtr .f64 (fop .quo .f64 4607182418800017408 a) 0 == fcmp .gtr .f64 (fop .quo .f64 4607182418800017408 b) 0
    | false => fcmp .eql .f64 a b
/-- A float and its being finite; 0 in its place. -/
def numOf (c : Nat) : Nat := match fin c with
  | true => c
  | false => 0
def okLine (l : LineV) : Bool := fin l.p && fin l.h && above l.w && within l.k 0 3
/-- Where light leaves a grating, as a sine. -/
def gout (a b c : Nat) (n : Int) : Nat := fop .sub .f32 (fop .quo .f32 (fop .mul .f32 (fint .f32 n) a) b) c
def unit (x : Nat) : Bool := fcmp .geq .f32 x 3212836864 && fcmp .leq .f32 x 1065353216
def orZero (b : Bool) (x : Nat) : Nat := match b with
  | true => x
  | false => 0
def orLine (b : Bool) (l : LineV) : LineV := match b with
  | true => l
  | false => ⟨0, 0, 0, 0⟩
/-- What a line's shape counts in its area. -/
def shapeBy (n : Int) : Nat := bif n == 0 then 1071833029 else bif n == 1 then 1078530011 else bif n == 2 then 1075658719 else 1065353216
def areaX (l : LineV) : Nat := fop .mul .f32 (fop .mul .f32 l.h l.w) (shapeBy l.k)
def eqLineF (a b : LineV) : Bool := sameF (wid a.p) (wid b.p) && (sameF (wid a.h) (wid b.h) && (sameF (wid a.w) (wid b.w) && a.k == b.k))
/-- Two lines made one. -/
def blendX (a b : LineV) : LineV :=
  ⟨fop .quo .f32 (fop .add .f32 (fop .mul .f32 a.p a.h) (fop .mul .f32 b.p b.h)) (fop .add .f32 a.h b.h), fop .add .f32 a.h b.h,
    fop .add .f32 (fmax .f32 a.w b.w) (mag (fop .mul .f32 1056964608 (fop .sub .f32 a.p b.p))), a.k⟩
def blendOk (a b : LineV) : Bool := okLine a && (okLine b && (!fcmp .eql .f32 (fop .add .f32 a.h b.h) 0 && okLine (blendX a b)))
def all2 {α : Type} (p : α → α → Bool) : List α → List α → Bool
  | a :: as, b :: bs => p a b && all2 p as bs
  | _, _ => true
def sameW (a b : Nat) : Bool := sameF (wid a) (wid b)
def sameI (a b : Int) : Bool := a == b
def eqEdgeF (a b : EdgeV) : Bool := (a.f == b.f) && ((a.t == b.t) && sameF (wid a.p) (wid b.p))
/-- What is left of a budget; -1: too little. -/
def szLeft (n : Nat) (left : Int) : Int := match decide (IntKind.i64.wrap (left - (n : Int)) < 0) with
  | true => -1
  | false => IntKind.i64.wrap (left - (n : Int))
def ladC (xs : List Nat) : Nat := fop .mul .f32 1056964608 (fop .add .f32 (fop .sub .f32 (xs.getD 2 0) (fop .mul .f32 1073741824 (xs.getD 1 0))) (xs.getD 0 0))
def ladB (xs : List Nat) : Nat := fop .sub .f32 (fop .sub .f32 (xs.getD 1 0) (xs.getD 0 0)) (ladC xs)
def ladOk (xs : List Nat) : Bool := (xs.all fin && (decide (xs.length ≥ 3) && decide (xs.length ≤ 32))) && (fin (ladB xs) && fin (ladC xs))
def ladN (xs : List Nat) : Nat := fop .add .f32 (fop .sub .f32 (fop .mul .f32 1077936128 (xs.getD (xs.length - 1) 0)) (fop .mul .f32 1077936128 (xs.getD (xs.length - 2) 0))) (xs.getD (xs.length - 3) 0)
/-- Whether an edge is one between so many levels. -/
def edgeOk (v : Int) (e : EdgeV) : Bool := (within e.f 0 (IntKind.i64.wrap (v - 1)) && within e.t 0 (IntKind.i64.wrap (v - 1))) && (!(e.f == e.t) && fin e.p)
def notEdge (v : Int) (e : EdgeV) : Bool := !edgeOk v e
/-- Numbers from n on, as marks. -/
def marks (n : Int) : Nat → List Nat
  | 0 => []
  | m + 1 => fint .f32 n :: marks (n + 1) m
def marksI (n : Int) : Nat → List Int
  | 0 => []
  | m + 1 => n :: marksI (n + 1) m
def heldF (n : Int) : List Nat → Bool
  | [] => true
  | x :: xs => !fcmp .neq .f32 x (fint .f32 n) && heldF (n + 1) xs
def heldI (n : Int) : List Int → Bool
  | [] => true
  | x :: xs => x == n && heldI (n + 1) xs
def heldN (b : Bool) (n : Int) : Int := match b with
  | true => n
  | false => -1
def horner (p x : Nat) (xs : List Nat) : Nat := xs.foldr (fun c v => fop .add .f32 (fop .mul .f32 v p) c) x
def orNil {α : Type} (b : Bool) (xs : List α) : List α := match b with
  | true => xs
  | false => []
/-- The differences, one by one; whether all of it is finite. -/
def diffs : List Nat → List Nat → List Nat
  | x :: xs, y :: ys => fop .sub .f32 x y :: diffs xs ys
  | _, _ => []
def diffOk : List Nat → List Nat → Bool
  | x :: xs, y :: ys => (fin x && (fin y && fin (fop .sub .f32 x y))) && diffOk xs ys
  | _, _ => true
/-- So many ints from i on. -/
def ints (i : Int) : Nat → List Int
  | 0 => []
  | m + 1 => i :: ints (i + 1) m
/-- The orders from -100 to 100 for which it holds. -/
def ordersOf (p : Int → Bool) : List Int := (ints (-100) 201).filter p
/-- The first place where it holds; -1: none. -/
def firstAt {α : Type} (p : α → Bool) (xs : List α) : Int := match xs.findIdx? p with
  | some i => (i : Int)
  | none => -1

end Go.Sm
