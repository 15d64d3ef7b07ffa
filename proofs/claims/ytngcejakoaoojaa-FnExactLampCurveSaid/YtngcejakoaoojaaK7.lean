/- A machine on plain data, its laws: part 7. -/
import Derived.Test.YtngcejakoaoojaaK6
import Derived.Laws.FloatBits
import Derived.Laws.FloatArith
import Derived.Laws.BitsLemmas
/- Small helps for the functions of a program: a function without loops, with one loop; the plain functions that the bodies come to. -/
namespace Go.Sm
open Go Go.RowKit

def loopBodies : Code → List Code
  | .seq a b => loopBodies a ++ loopBodies b
  | .cond _ a b => loopBodies a ++ loopBodies b
  | .block _ a => loopBodies a
  | .loop a => a :: loopBodies a
  | _ => []

def bodyOf (fn : Func) : Code := fn.body.getD .skip
def loopAt (fn : Func) (i : Nat) : Code := (loopBodies (bodyOf fn)).getD i .skip

def runFn (T : TT) (A : Ann) (L : Loops) (fn : Func) (args : List FV) : R := runF T A L fn.ntmps (bodyOf fn) fn.results.toList args
def runMn (T : TT) (A : Ann) (L : Loops) (fn : Func) (e : Nat) (vec : Vec) (args : List FV) : R := runM T A L fn.ntmps (bodyOf fn) fn.results.toList e vec args

def LOK (T : TT) (A : Ann) (L : Loops) (nt : Nat) (a : Code) : Prop :=
  ∀ ins outs, A.lp (firstRegion a) = some (ins, outs) → ∀ s k out, L (firstRegion a) s k = some out → ∃ n, iterK A ins outs (codeK T A L nt a) n s k = some out

section
variable {T : TT} {A : Ann} {L : Loops} {nt : Nat} {P : Program}

theorem loops_all : ∀ {c : Code}, (∀ b ∈ loopBodies c, LOK T A L nt b) → LoopsOk T A L nt c
  | .seq a b, h => ⟨loops_all fun x hx => h x (List.mem_append_left _ hx), loops_all fun x hx => h x (List.mem_append_right _ hx)⟩
  | .cond _ a b, h => ⟨loops_all fun x hx => h x (List.mem_append_left _ hx), loops_all fun x hx => h x (List.mem_append_right _ hx)⟩
  | .block _ a, h => loops_all (c := a) h
  | .loop a, h => ⟨h a (List.mem_cons_self), loops_all fun x hx => h x (List.mem_cons_of_mem _ hx)⟩
  | .skip, _ => trivial
  | .region .., _ => trivial
  | .ret, _ => trivial
  | .exit _, _ => trivial
  | .rangeFunc .., _ => trivial
  | .scope _, _ => trivial
  | .label _, _ => trivial
  | .goto _, _ => trivial
  | .refuse _, _ => trivial

def nLoops (fn : Func) : Nat := (loopBodies (bodyOf fn)).length

theorem loops0 {fn : Func} (h : nLoops fn = 0) : LoopsOk T A L nt (bodyOf fn) := loops_all fun b hb => by
  have : loopBodies (bodyOf fn) = [] := List.eq_nil_of_length_eq_zero h
  rw [this] at hb
  cases hb

theorem loops1 {fn : Func} (h : nLoops fn = 1) (h0 : LOK T A L nt (loopAt fn 0)) : LoopsOk T A L nt (bodyOf fn) := loops_all fun b hb => by
  unfold nLoops at h
  unfold loopAt at h0
  match hl : loopBodies (bodyOf fn), h with
  | [x], _ =>
    rw [hl] at hb h0
    rw [List.mem_singleton.1 hb]
    exact h0

theorem loops2 {fn : Func} (h : nLoops fn = 2) (h0 : LOK T A L nt (loopAt fn 0)) (h1 : LOK T A L nt (loopAt fn 1)) : LoopsOk T A L nt (bodyOf fn) := loops_all fun b hb => by
  unfold nLoops at h
  unfold loopAt at h0 h1
  match hl : loopBodies (bodyOf fn), h with
  | [x, y], _ =>
    rw [hl] at hb h0 h1
    simp only [List.mem_cons, List.not_mem_nil, or_false] at hb
    rcases hb with rfl | rfl
    · exact h0
    · exact h1

theorem fn_ok (hT : TOK P T) {f : Nat} {fn : Func} {args : List FV} {rs : List RV} {r : Option Row} (hf : P.funcs[f]? = some fn) (hb : fn.body.isSome = true) (hnt : Nat.ble args.length fn.ntmps = true) (hL : LoopsOk T A L fn.ntmps (bodyOf fn))
    (h : runFn T A L fn args = some ⟨rs, r⟩) : COK P f args rs := by
  have hb' : fn.body = some (bodyOf fn) := by
    unfold bodyOf
    cases hc : fn.body with
    | none => rw [hc] at hb; cases hb
    | some c => rfl
  exact runF_ok hT hf hb' rfl (Nat.le_of_ble_eq_true hnt) hL h

/-- A nil slice is an empty one, too. -/
theorem COK.nil {f : Nat} {args : List FV} {rs : List RV} {e : Nat} {k : K} (h : COK P f args (.nil :: rs)) : COK P f args (.fresh e ⟨k, []⟩ :: rs) := by
  intro w cargs hargs
  refine (h w cargs hargs).mono fun en w' ⟨vs, h1, h2, h3⟩ => ⟨vs, h1, h2, ?_⟩
  obtain ⟨hall, hap⟩ := h3
  match vs, hall with
  | v :: vs, hall =>
    have hv : v = .slice none 0 0 := hall.1
    refine ⟨⟨⟨[], ⟨by simp, .inl ⟨hv, rfl⟩⟩, trivial, fun g hg => by rw [hv] at hg; cases hg⟩, hall.2⟩, fun i j r r' x x' g hne hi hj hf hf' hx hx' hg => ?_⟩
    cases i with
    | zero =>
      simp at hx
      subst hx
      rw [hv] at hg
      cases hg
    | succ i =>
      cases j with
      | zero =>
        simp at hx'
        subst hx'
        rw [hv]
        intro h
        cases h
      | succ j => exact hap (i + 1) (j + 1) r r' x x' g hne (by simpa using hi) (by simpa using hj) hf hf' hx hx' hg

/-- An empty slice: nil, or not. -/
theorem COK.empty {f e : Nat} {k : K} (h1 : COK P f [.nil] [.nil]) (h2 : COK P f [.ne k] [.fresh e ⟨k, []⟩]) : COK P f [.vw none ⟨k, []⟩] [.fresh e ⟨k, []⟩] := by
  intro w cargs hargs
  match cargs, hargs with
  | [v], hargs =>
    rcases hargs.1.1 with ⟨h, _⟩ | ⟨a, cap, h, _⟩
    · exact COK.nil h1 w [v] ⟨h, trivial⟩
    · exact h2 w [v] ⟨⟨a, cap, h⟩, trivial⟩

theorem mfn_ok (hT : TOK P T) {f : Nat} {fn : Func} {vec vec' : Vec} {args : List FV} {rs : List RV} (hf : P.funcs[f]? = some fn) (hb : fn.body.isSome = true) (hnt : Nat.ble (args.length + 1) fn.ntmps = true) (hL : LoopsOk T A L fn.ntmps (bodyOf fn)) (hA : 0 < A.nf)
    (hk2 : (vec.k.is2 || (vec.k.isAl || vec'.k.is2)) = false) (hq : quietRV rs = true) (h : ∀ e, runMn T A L fn e vec args = some ⟨rs, some ⟨e, vec'⟩⟩) : CMOK P f vec args rs vec' := by
  have hb' : fn.body = some (bodyOf fn) := by
    unfold bodyOf
    cases hc : fn.body with
    | none => rw [hc] at hb; cases hb
    | some c => rfl
  exact runM_ok hT hf hb' rfl (Nat.le_of_ble_eq_true hnt) hL hA hk2 hq h

theorem mfn2_ok (hT : TOK P T) {f : Nat} {fn : Func} {vec vec' : Vec} {args : List FV} {rs : List RV} (hf : P.funcs[f]? = some fn) (hb : fn.body.isSome = true) (hnt : Nat.ble (args.length + 1) fn.ntmps = true) (hL : LoopsOk T A L fn.ntmps (bodyOf fn)) (hA : 0 < A.nf)
    (hk2 : (vec.k.is2 && vec'.k.is2) = true) (hq : quietRV rs = true) (h : ∀ e, runMn T A L fn e vec args = some ⟨rs, some ⟨e, vec'⟩⟩) : CMOK P f vec args rs vec' := by
  have hb' : fn.body = some (bodyOf fn) := by
    unfold bodyOf
    cases hc : fn.body with
    | none => rw [hc] at hb; cases hb
    | some c => rfl
  exact runM2_ok hT hf hb' rfl (Nat.le_of_ble_eq_true hnt) hL hA hk2 hq h

theorem real {f : Nat} {fn : Func} (hf : P.funcs[f]? = some fn) (h : (fn.body.isSome && !(fn.name == "runtime.NumGoroutine")) = true) : Real P f := by
  rw [Bool.and_eq_true] at h
  exact ⟨fn, hf, h.1, by simpa using h.2⟩

/-- Loops of a function: where each counts which slots. -/
def ann (lp : List (Nat × List Nat × List Nat)) (rets : List Nat) (nf : Nat) : Ann := ⟨look lp, rets, nf⟩
def noL : Loops := fun _ _ _ => none
def noS : SFn := fun _ _ _ => none
def noM : MFn := fun _ _ _ _ => none
def none0 : Ann := ⟨fun _ => none, [], 0⟩
end

/-- Lists longer than this are not spoken of. -/
def big : Nat := 1099511627776

/-! ### Plain functions -/

def fin (c : Nat) : Bool := fcmp .eql .f32 (fop .sub .f32 c c) 0
def above (c : Nat) : Bool := fin c && fcmp .gtr .f32 c 0
def notFin (c : Nat) : Bool := !fin c
def notPos (c : Nat) : Bool := !fin c || fcmp .leq .f32 c 0
def within (n a b : Int) : Bool := decide (n ≥ a) && decide (n ≤ b)
def mag (c : Nat) : Nat := match fcmp .lss .f32 c 0 with
  | true => fneg .f32 c
  | false => c
def sameF (a b : Nat) : Bool := match fcmp .neq .f64 a a || fcmp .neq .f64 b b with
  | true => fcmp .neq .f64 a a && fcmp .neq .f64 b b
  | false => match fcmp .eql .f64 a 0 && fcmp .eql .f64 b 0 with
    | true => fcmp .gtr .f64 (fop .quo .f64 4607182418800017408 a) 0 == fcmp .gtr .f64 (fop .quo .f64 4607182418800017408 b) 0
    | false => fcmp .eql .f64 a b
/-- A float and its being finite; 0 in its place. -/
def numOf (c : Nat) : Nat := match fin c with
  | true => c
  | false => 0
def okLine (l : LineV) : Bool := fin l.p && fin l.h && above l.w && within l.k 0 3
/-- Where light leaves a grating, as a sine. -/
def gout (a b c : Nat) (n : Int) : Nat := fop .sub .f32 (fop .quo .f32 (fop .mul .f32 (fint .f32 n) a) b) c
def unit (x : Nat) : Bool := fcmp .geq .f32 x 3212836864 && fcmp .leq .f32 x 1065353216
def orZero (b : Bool) (x : Nat) : Nat := match b with
  | true => x
  | false => 0
def orLine (b : Bool) (l : LineV) : LineV := match b with
  | true => l
  | false => ⟨0, 0, 0, 0⟩
/-- What a line's shape counts in its area. -/
def shapeBy (n : Int) : Nat := bif n == 0 then 1071833029 else bif n == 1 then 1078530011 else bif n == 2 then 1075658719 else 1065353216
def areaX (l : LineV) : Nat := fop .mul .f32 (fop .mul .f32 l.h l.w) (shapeBy l.k)
def eqLineF (a b : LineV) : Bool := sameF (wid a.p) (wid b.p) && (sameF (wid a.h) (wid b.h) && (sameF (wid a.w) (wid b.w) && a.k == b.k))
/-- Two lines made one. -/
def blendX (a b : LineV) : LineV :=
  ⟨fop .quo .f32 (fop .add .f32 (fop .mul .f32 a.p a.h) (fop .mul .f32 b.p b.h)) (fop .add .f32 a.h b.h), fop .add .f32 a.h b.h,
    fop .add .f32 (fmax .f32 a.w b.w) (mag (fop .mul .f32 1056964608 (fop .sub .f32 a.p b.p))), a.k⟩
def blendOk (a b : LineV) : Bool := okLine a && (okLine b && (!fcmp .eql .f32 (fop .add .f32 a.h b.h) 0 && okLine (blendX a b)))
def all2 {α : Type} (p : α → α → Bool) : List α → List α → Bool
  | a :: as, b :: bs => p a b && all2 p as bs
  | _, _ => true
def sameW (a b : Nat) : Bool := sameF (wid a) (wid b)
def sameI (a b : Int) : Bool := a == b
def eqEdgeF (a b : EdgeV) : Bool := (a.f == b.f) && ((a.t == b.t) && sameF (wid a.p) (wid b.p))
/-- What is left of a budget; -1: too little. -/
def szLeft (n : Nat) (left : Int) : Int := match decide (IntKind.i64.wrap (left - (n : Int)) < 0) with
  | true => -1
  | false => IntKind.i64.wrap (left - (n : Int))
def ladC (xs : List Nat) : Nat := fop .mul .f32 1056964608 (fop .add .f32 (fop .sub .f32 (xs.getD 2 0) (fop .mul .f32 1073741824 (xs.getD 1 0))) (xs.getD 0 0))
def ladB (xs : List Nat) : Nat := fop .sub .f32 (fop .sub .f32 (xs.getD 1 0) (xs.getD 0 0)) (ladC xs)
def ladOk (xs : List Nat) : Bool := (xs.all fin && (decide (xs.length ≥ 3) && decide (xs.length ≤ 32))) && (fin (ladB xs) && fin (ladC xs))
def ladN (xs : List Nat) : Nat := fop .add .f32 (fop .sub .f32 (fop .mul .f32 1077936128 (xs.getD (xs.length - 1) 0)) (fop .mul .f32 1077936128 (xs.getD (xs.length - 2) 0))) (xs.getD (xs.length - 3) 0)
/-- Whether an edge is one between so many levels. -/
def edgeOk (v : Int) (e : EdgeV) : Bool := (within e.f 0 (IntKind.i64.wrap (v - 1)) && within e.t 0 (IntKind.i64.wrap (v - 1))) && (!(e.f == e.t) && fin e.p)
def notEdge (v : Int) (e : EdgeV) : Bool := !edgeOk v e
/-- Numbers from n on, as marks. -/
def marks (n : Int) : Nat → List Nat
  | 0 => []
  | m + 1 => fint .f32 n :: marks (n + 1) m
def marksI (n : Int) : Nat → List Int
  | 0 => []
  | m + 1 => n :: marksI (n + 1) m
def heldF (n : Int) : List Nat → Bool
  | [] => true
  | x :: xs => !fcmp .neq .f32 x (fint .f32 n) && heldF (n + 1) xs
def heldI (n : Int) : List Int → Bool
  | [] => true
  | x :: xs => x == n && heldI (n + 1) xs
def heldN (b : Bool) (n : Int) : Int := match b with
  | true => n
  | false => -1
def horner (p x : Nat) (xs : List Nat) : Nat := xs.foldr (fun c v => fop .add .f32 (fop .mul .f32 v p) c) x
def orNil {α : Type} (b : Bool) (xs : List α) : List α := match b with
  | true => xs
  | false => []
/-- The differences, one by one; whether all of it is finite. -/
def diffs : List Nat → List Nat → List Nat
  | x :: xs, y :: ys => fop .sub .f32 x y :: diffs xs ys
  | _, _ => []
def diffOk : List Nat → List Nat → Bool
  | x :: xs, y :: ys => (fin x && (fin y && fin (fop .sub .f32 x y))) && diffOk xs ys
  | _, _ => true
/-- So many ints from i on. -/
def ints (i : Int) : Nat → List Int
  | 0 => []
  | m + 1 => i :: ints (i + 1) m
/-- The orders from -100 to 100 for which it holds. -/
def ordersOf (p : Int → Bool) : List Int := (ints (-100) 201).filter p
/-- The first place where it holds; -1: none. -/
def firstAt {α : Type} (p : α → Bool) (xs : List α) : Int := match xs.findIdx? p with
  | some i => (i : Int)
  | none => -1

end Go.Sm

/- Functions in which there may be a slice of rows. -/
namespace Go.Sm
open Go Go.RowKit

def runFU (T : TT) (A : Ann) (L : Loops) (G : Nat → Option GF) (nt fuel : Nat) (c : Code) (rl : List ResultVar) (args : List FV) : R :=
  codeU T A L G nt fuel c ⟨initSl 0 args, []⟩ none fun e s _ => finK T false rl e s
def runFnU (T : TT) (A : Ann) (L : Loops) (G : Nat → Option GF) (fuel : Nat) (fn : Func) (args : List FV) : R := runFU T A L G fn.ntmps fuel (bodyOf fn) fn.results.toList args
def gfOf (T : TT) (A : Ann) (L : Loops) (G : Nat → Option GF) (fuel : Nat) (fn : Func) : GF := runGF T A L G fn.ntmps fuel (bodyOf fn) fn.results.toList
def noG : Nat → Option GF := fun _ => none
def oneG (f0 : Nat) (F : GF) : Nat → Option GF := fun f => bif Nat.beq f f0 then some F else none

section
variable {P : Program} {T : TT} {A : Ann} {L : Loops} {G : Nat → Option GF} {nt : Nat}

theorem noG_ok : GOKs P noG := fun _ _ h => by cases h
theorem oneG_ok {f0 : Nat} {F : GF} (h : Real P f0 ∧ GOK P f0 F) : GOKs P (oneG f0 F) := by
  intro f F' hF
  unfold oneG at hF
  cases hb : Nat.beq f f0 with
  | false => rw [hb] at hF; cases hF
  | true =>
    rw [hb] at hF
    cases hF
    rw [Nat.eq_of_beq_eq_true hb]
    exact h

theorem loopsU_of : ∀ {c : Code}, LoopsOk T A L nt c → LoopsU T A L nt c
  | .seq a b, h => ⟨loopsU_of h.1, loopsU_of h.2⟩
  | .cond _ a b, h => ⟨loopsU_of h.1, loopsU_of h.2⟩
  | .block _ a, h => loopsU_of (c := a) h
  | .loop a, h => ⟨fun _ => h, loopsU_of h.2⟩
  | .skip, _ => trivial
  | .region _ _ _, _ => trivial
  | .ret, _ => trivial
  | .exit _, _ => trivial
  | .rangeFunc .., _ => trivial
  | .scope _, _ => trivial
  | .label _, _ => trivial
  | .goto _, _ => trivial
  | .refuse _, _ => trivial

theorem loopsU0 {fn : Func} : LoopsU T none0 L nt (bodyOf fn) := loopsU_of (loops_all fun _ _ ins outs h => by cases h)

theorem body_some {fn : Func} (hb : fn.body.isSome = true) : fn.body = some (bodyOf fn) := by
  unfold bodyOf
  cases hc : fn.body with
  | none => rw [hc] at hb; cases hb
  | some c => rfl

theorem gfOf_ok (hT : TOK P T) (hG : GOKs P G) {f fuel : Nat} {fn : Func} (hf : P.funcs[f]? = some fn) (hb : fn.body.isSome = true) (hL : LoopsU T A L fn.ntmps (bodyOf fn)) : GOK P f (gfOf T A L G fuel fn) := runGF_ok hT hG hf (body_some hb) rfl hL

/-- **A FUNCTION THAT ONLY READS WHAT IT IS HANDED.** -/
theorem runFU_ok (hT : TOK P T) (hG : GOKs P G) {f fuel : Nat} {fn : Func} {c : Code} {rl : List ResultVar} {args : List FV} {out : Out} (hf : P.funcs[f]? = some fn) (hb : fn.body = some c) (hrl : fn.results.toList = rl) (hnt : args.length ≤ fn.ntmps)
    (hL : LoopsU T A L fn.ntmps c) (h : runFU T A L G fn.ntmps fuel c rl args = some out) : COK P f args out.rs := by
  subst hrl
  unfold runFU at h
  intro w cargs hargs
  have hlen := hargs.length
  refine calls_of_wp hf hb ?_
  have hp : ∀ k, (fun k => k < w.heap.size) k → k < w.heap.size := fun _ h => h
  have hs : SR (fun k => k < w.heap.size) w cargs fn.ntmps ⟨initSl 0 args, []⟩ { tmps := cargs.toArray ++ Array.replicate (fn.ntmps - cargs.toArray.size) undef, defers := [] } w [] := by
    refine ⟨by simp; omega, rfl, fun t v hv => ?_, ⟨rfl, fun r row hr => by simp [rowAt] at hr, fun r r' row row' v v' g _ hr => by simp [rowAt] at hr, LLR.noRow fun r => rfl⟩, Keep.refl _ _⟩
    obtain ⟨j, x, rfl, hx, rfl⟩ := initSl_lk args 0 t v hv
    obtain ⟨u, hu, hr⟩ := hargs.get j x hx
    rw [Nat.zero_add, getD_args hu]
    exact argIn_ok hr hu
  refine codeU_ok hT hG c hL _ _ _ out h _ _ w [] ⟨_, w, fun _ h => h, hp, Keep.refl _ _, hs, fun r hr => by cases hr⟩ fun e s' M' a' w' ρ' hk hs0' => ?_
  obtain ⟨Pr', w1, hsub, hp', hkp, hs', _⟩ := hs0'
  have hkeep : Keep (fun k => k < w.heap.size) w w' := hkp.trans (hs'.keep.mono hsub)
  have main : resK T s' fn.results.toList (endK false s') = some out → a'.defers = [] ∧ ∃ v, (results fn a'.tmps).run P w' = .ok v w' ∧
      (∃ vs, Ending.returned v = .returned (packV vs) ∧ Same w w' ∧ RVs w w' cargs out.rs vs) := by
    intro hk
    obtain ⟨vs, h1, h2⟩ := resK_ok hT _ _ hk
    obtain ⟨us, h3, h4⟩ := h2 w1 w' _ cargs _ a' ρ' hp' hs'
    rcases endK_ok h1 with ⟨hap, hrv, _⟩ | ⟨_, he2⟩
    case inr =>
      unfold end2 at he2
      split at he2
      · rename_i r
        split at he2
        · rename_i row hrow
          cases he2
          obtain ⟨z, hz⟩ := two_some (llAt_is2 hrow).1
          obtain ⟨I, hI⟩ := hs'.heap.ll
          obtain ⟨v, us2, a1, a2, a3, ad, _, a4, a5⟩ := hI r row z hrow hz
          match us, h4 with
          | [u], h4 =>
            have hu : ρ'[r]? = some u := h4.1
            rw [hu] at a1
            simp only [Option.some.injEq] at a1
            subst a1
            exact ⟨hs'.defers, packV [u], results_run h3, [u], rfl, ⟨hkeep.os, hkeep.tape, hkeep.output, hkeep.size, hkeep.block⟩,
              ⟨⟨z, us2, I r, hz, a2, a3, ad, a4, fun g hg => ⟨Nat.not_lt.1 fun hlt => (a5 g hg).2.1 (hsub g hlt), (a5 g hg).1⟩⟩, trivial⟩, fun i j r1 r2 v1 v2 g hne h1 h2 h3 => by
                cases i with
                | zero => simp at h1; subst h1; cases h3
                | succ i => simp at h1⟩
        · cases he2
      · cases he2
    obtain ⟨h5, h6⟩ := rvAll_ok (w0 := w) hs'.heap (fun r u g _ _ h => Nat.not_lt.1 fun hlt => h (hsub g hlt)) hrv h4
    exact ⟨hs'.defers, packV us, results_run h3, us, rfl, ⟨hkeep.os, hkeep.tape, hkeep.output, hkeep.size, hkeep.block⟩, rvs_apart hs'.heap hap h6 h5⟩
  cases e with
  | normal => exact main hk
  | ret => exact main hk
  | exit i => cases hk

theorem fnU_ok (hT : TOK P T) (hG : GOKs P G) {f fuel : Nat} {fn : Func} {args : List FV} {rs : List RV} {r : Option Row} (hf : P.funcs[f]? = some fn) (hb : fn.body.isSome = true) (hnt : Nat.ble args.length fn.ntmps = true) (hL : LoopsU T A L fn.ntmps (bodyOf fn))
    (h : runFnU T A L G fuel fn args = some ⟨rs, r⟩) : COK P f args rs := runFU_ok hT hG hf (body_some hb) rfl (Nat.le_of_ble_eq_true hnt) hL h

end
end Go.Sm

/- Functions of the model's own, without a body: bits of floats, roots, whole parts. -/
namespace Go.Sm
open Go Go.RowKit

/-- A float made whole; the root of a float. -/
def fround (way : Ieee.Toward) (c : Nat) : Nat := bif isN .f64 c then nanOf .f64 else FloatKind.f64.encode ((FloatKind.f64.decode c).integral way)
def fsqrt (c : Nat) : Nat := (FloatKind.f64.format.sqrt c).getD (nanOf .f64)

section
variable {P : Program} {f : Nat} {fn : Func}

theorem one_arg {w : World} {Pr : Nat → Prop} {x : FV} {cargs : List Value} (h : AllR (FVR w Pr [] []) [x] cargs) : ∃ v, cargs = [v] ∧ FVR w Pr [] [] x v := by
  match cargs, h with
  | [v], h => exact ⟨v, rfl, h.1⟩

theorem cn_same {k : FloatKind} {b c : Nat} (h : cn k b = c) (hn : isN k c = false) : b = c := by
  subst h
  rw [isN_cn] at hn
  exact (cn_num hn).symm

theorem x_f32bits (h1 : P.funcs[f]? = some fn) (h2 : (fn.name == "runtime.NumGoroutine") = false) (h3 : fn.body.isNone = true) (h4 : Extern.findNext fn = none) (h5 : Extern.find fn = some Extern.MathFloatBits.float32bits) {c : Nat} (hn : isN .f32 c = false) :
    CallOK P f [.el (.sc (.fl .f32 c))] [.el (.sc (.int .u32 c))] := by
  refine .inr ⟨fn, _, _, h1, h2, h3, h4, h5, rfl, fun w cargs h => ?_⟩
  obtain ⟨v, rfl, b, rfl, hb⟩ := one_arg h
  rw [cn_same hb hn]
  exact ⟨_, w, rfl, rfl, Same.refl w⟩

theorem x_f64bits (h1 : P.funcs[f]? = some fn) (h2 : (fn.name == "runtime.NumGoroutine") = false) (h3 : fn.body.isNone = true) (h4 : Extern.findNext fn = none) (h5 : Extern.find fn = some Extern.MathFloatBits.float64bits) {c : Nat} (hn : isN .f64 c = false) :
    CallOK P f [.el (.sc (.fl .f64 c))] [.el (.sc (.int .u64 c))] := by
  refine .inr ⟨fn, _, _, h1, h2, h3, h4, h5, rfl, fun w cargs h => ?_⟩
  obtain ⟨v, rfl, b, rfl, hb⟩ := one_arg h
  rw [cn_same hb hn]
  exact ⟨_, w, rfl, rfl, Same.refl w⟩

theorem x_f32from (h1 : P.funcs[f]? = some fn) (h2 : (fn.name == "runtime.NumGoroutine") = false) (h3 : fn.body.isNone = true) (h4 : Extern.findNext fn = none) (h5 : Extern.find fn = some Extern.MathFloatBits.float32frombits) {n : Int} :
    CallOK P f [.el (.sc (.int .u32 n))] [.el (.sc (.fl .f32 (cn .f32 n.toNat)))] := by
  refine .inr ⟨fn, _, _, h1, h2, h3, h4, h5, rfl, fun w cargs h => ?_⟩
  obtain ⟨v, rfl, hv⟩ := one_arg h
  have hv : v = .int .u32 n := hv
  subst hv
  exact ⟨_, w, rfl, ⟨_, rfl, rfl⟩, Same.refl w⟩

theorem x_f64from (h1 : P.funcs[f]? = some fn) (h2 : (fn.name == "runtime.NumGoroutine") = false) (h3 : fn.body.isNone = true) (h4 : Extern.findNext fn = none) (h5 : Extern.find fn = some Extern.MathFloatBits.float64frombits) {n : Int} :
    CallOK P f [.el (.sc (.int .u64 n))] [.el (.sc (.fl .f64 (cn .f64 n.toNat)))] := by
  refine .inr ⟨fn, _, _, h1, h2, h3, h4, h5, rfl, fun w cargs h => ?_⟩
  obtain ⟨v, rfl, hv⟩ := one_arg h
  have hv : v = .int .u64 n := hv
  subst hv
  exact ⟨_, w, rfl, ⟨_, rfl, rfl⟩, Same.refl w⟩

theorem integral_notNaN {way : Ieee.Toward} {d : Ieee.Datum} (h : d.isNaN = false) : (d.integral way).isNaN = false := by
  cases d with
  | nan s t => simp [Ieee.Datum.isNaN] at h
  | infinity s => rfl
  | number s m e => rfl

theorem quietNaN (s : Bool) (t : Nat) : isN .f64 (FloatKind.f64.encode (.nan s (FloatKind.f64.format.quiet t))) = true := by
  have h0 : (t ||| 2 ^ 51) % 2 ^ 52 ≠ 0 := by
    intro h
    have h1 : ((t ||| 2 ^ 51) % 2 ^ 52).testBit 51 = true := by
      rw [Nat.testBit_mod_two_pow, Nat.testBit_or, Nat.testBit_two_pow]
      simp
    rw [h] at h1
    simp at h1
  have hlt := Nat.mod_lt (t ||| 2 ^ 51) (show 0 < 2 ^ 52 by decide)
  have e : FloatKind.f64.encode (.nan s (FloatKind.f64.format.quiet t)) = Ieee.double.word s (Ieee.double.infRung + (t ||| 2 ^ 51) % 2 ^ 52) := rfl
  rw [e]
  generalize (t ||| 2 ^ 51) % 2 ^ 52 = q at h0 hlt
  have hs : Ieee.double.signWeight = 9223372036854775808 := by decide
  have hb : Ieee.double.binade = 4503599627370496 := by decide
  have hi : Ieee.double.infRung = 9218868437227405312 := by decide
  have hm : Ieee.double.word s (Ieee.double.infRung + q) % Ieee.double.signWeight = Ieee.double.infRung + q := by
    unfold Ieee.Format.word
    rw [hs, hi]
    cases s
    · simp; omega
    · simp; omega
  show (Ieee.double.read (Ieee.double.word s (Ieee.double.infRung + q))).isNaN = true
  unfold Ieee.Format.read
  dsimp only
  rw [hm, if_neg (by omega), if_neg (by omega), if_neg (by omega)]
  rfl

theorem x_round {name : String} {way : Ieee.Toward} (h1 : P.funcs[f]? = some fn) (h2 : (fn.name == "runtime.NumGoroutine") = false) (h3 : fn.body.isNone = true) (h4 : Extern.findNext fn = none) (h5 : Extern.find fn = some (Extern.MathFloor.toIntegral name way)) {c : Nat} :
    CallOK P f [.el (.sc (.fl .f64 c))] [.el (.sc (.fl .f64 (fround way c)))] := by
  refine .inr ⟨fn, _, _, h1, h2, h3, h4, h5, rfl, fun w cargs h => ?_⟩
  obtain ⟨v, rfl, b, rfl, hb⟩ := one_arg h
  have hq : isN .f64 b = isN .f64 c := by rw [← hb, isN_cn]
  have he : Extern.MathFloor.toIntegral name way [Value.float .f64 b].toArray = (match FloatKind.f64.decode b with
      | .nan s t => if FloatKind.f64.format.quiet t = t then pure (.float .f64 b) else (do
          let kept ← choose (.extern "math.Floor,Ceil,Trunc,RoundToEven.signallingNaN kept" 2)
          pure (.float .f64 (if kept == 1 then b else FloatKind.f64.encode (.nan s (FloatKind.f64.format.quiet t)))))
      | d => pure (.float .f64 (FloatKind.f64.encode (d.integral way)))) := rfl
  rw [he]
  cases hd : FloatKind.f64.decode b with
  | nan s t =>
    have hn : isN .f64 b = true := by unfold isN; rw [hd]; rfl
    have hfr : fround way c = nanOf .f64 := by unfold fround; rw [← hq, hn]; rfl
    rw [hfr]
    by_cases ht : FloatKind.f64.format.quiet t = t
    · refine ⟨.float .f64 b, w, ?_, ⟨b, rfl, cn_nan hn⟩, Same.refl w⟩
      simp [ht]
    · have hq2 : isN .f64 (FloatKind.f64.encode (.nan s (FloatKind.f64.format.quiet t))) = true := quietNaN s t
      refine ⟨.float .f64 (if ((Question.extern "math.Floor,Ceil,Trunc,RoundToEven.signallingNaN kept" 2).cut (w.tape w.drawn (Question.extern "math.Floor,Ceil,Trunc,RoundToEven.signallingNaN kept" 2)) == 1) = true then b else FloatKind.f64.encode (.nan s (FloatKind.f64.format.quiet t))), w.drew, ?_, ⟨_, rfl, ?_⟩, Same.drew w⟩
      · simp only [if_neg ht]
        rfl
      · split
        · exact cn_nan hn
        · exact cn_nan hq2
  | infinity s =>
    have hn : isN .f64 b = false := by unfold isN; rw [hd]; rfl
    have hbc : b = c := by rw [← hb, cn_num hn]
    subst hbc
    refine ⟨_, w, rfl, ⟨_, rfl, ?_⟩, Same.refl w⟩
    unfold fround
    rw [hn, hd]
    exact cn_num (write_notNaN _ _ rfl)
  | number s m e =>
    have hn : isN .f64 b = false := by unfold isN; rw [hd]; rfl
    have hbc : b = c := by rw [← hb, cn_num hn]
    subst hbc
    refine ⟨_, w, rfl, ⟨_, rfl, ?_⟩, Same.refl w⟩
    unfold fround
    rw [hn, hd]
    exact cn_num (write_notNaN _ _ rfl)

theorem root_notNaN {n : Nat} {a d : Ieee.Datum} (h : a.root n = some d) : d.isNaN = false := by
  cases a with
  | nan s t => cases h
  | infinity s =>
    cases s with
    | true => cases h
    | false => cases h; rfl
  | number s m e =>
    by_cases hm : m = 0
    · have e1 : (Ieee.Datum.number s m e).root n = some (.number s m e) := if_pos hm
      rw [e1] at h
      cases h
      rfl
    · cases s with
      | true =>
        have e1 : (Ieee.Datum.number true m e).root n = none := (if_neg hm).trans (if_pos rfl)
        rw [e1] at h
        cases h
      | false =>
        have e1 : ∃ q z, (Ieee.Datum.number false m e).root n = some (.number false q z) := ⟨_, _, (if_neg hm).trans (if_neg (by decide))⟩
        obtain ⟨q, z, e1⟩ := e1
        rw [e1] at h
        cases h
        rfl

theorem x_sqrt (h1 : P.funcs[f]? = some fn) (h2 : (fn.name == "runtime.NumGoroutine") = false) (h3 : fn.body.isNone = true) (h4 : Extern.findNext fn = none) (h5 : Extern.find fn = some Extern.MathSqrt.sqrt) {c : Nat} :
    CallOK P f [.el (.sc (.fl .f64 c))] [.el (.sc (.fl .f64 (fsqrt c)))] := by
  refine .inr ⟨fn, _, _, h1, h2, h3, h4, h5, rfl, fun w cargs h => ?_⟩
  obtain ⟨v, rfl, b, rfl, hb⟩ := one_arg h
  have hs : FloatKind.f64.format.sqrt b = FloatKind.f64.format.sqrt c := by
    cases hn : isN .f64 b with
    | false => rw [← hb, cn_num hn]
    | true =>
      have hc : isN .f64 c = true := by rw [← hb, isN_cn, hn]
      have key : ∀ x, isN .f64 x = true → FloatKind.f64.format.sqrt x = none := by
        intro x hx
        unfold isN FloatKind.decode at hx
        unfold Ieee.Format.sqrt
        cases hr : FloatKind.f64.format.read x with
        | nan s t => rfl
        | infinity s => rw [hr] at hx; cases hx
        | number s m e => rw [hr] at hx; cases hx
      rw [key b hn, key c hc]
  have he : Extern.MathSqrt.sqrt [Value.float .f64 b].toArray = (match FloatKind.f64.format.sqrt b with
      | some r => pure (.float .f64 r)
      | none => do pure (.float .f64 (← choose (.nanBits .f64 b b)))) := rfl
  rw [he, hs]
  unfold fsqrt
  cases hr : FloatKind.f64.format.sqrt c with
  | some r =>
    refine ⟨.float .f64 r, w, rfl, ⟨r, rfl, ?_⟩, Same.refl w⟩
    exact cn_num (map_write_notNaN (fun d hd => root_notNaN hd) hr)
  | none =>
    refine ⟨.float .f64 _, w.drew, rfl, ⟨_, rfl, ?_⟩, Same.drew w⟩
    exact cn_nan (isN_chosen .f64 _ _ (.inl ⟨b, b, rfl⟩))

theorem cok_call {args : List FV} {k : List RV → R} {out : Out} (h : ∃ rs, Real P f ∧ COK P f args rs ∧ k rs = some out) : ∃ rs, CallOK P f args rs ∧ k rs = some out := by
  obtain ⟨rs, h1, h2, h3⟩ := h
  exact ⟨rs, .inl ⟨h1, h2⟩, h3⟩
end

end Go.Sm

/- Rounding to 32-bit floats: what is not too great stays finite. -/
namespace Go.Sm
open Go Ieee

theorem cut_le {neg : Bool} {n drop B : Nat} (h : n ≤ B * 2 ^ drop) : Toward.even.cut neg n drop ≤ B := by
  unfold Toward.cut
  dsimp only
  rw [Nat.one_shiftLeft]
  rcases Nat.le_total drop (n.log2 + 2) with hd | hd
  · rw [Nat.min_eq_left hd]
    have hg := Nat.two_pow_pos drop
    have h1 : n / 2 ^ drop ≤ B := by
      have := Nat.div_le_div_right (c := 2 ^ drop) h
      rwa [Nat.mul_div_cancel _ hg] at this
    rcases Nat.lt_or_ge (n / 2 ^ drop) B with h2 | h2
    · have : ∀ b : Bool, b.toNat ≤ 1 := fun b => by cases b <;> decide
      have := this (decide (2 ^ drop < 2 * (n % 2 ^ drop)) || 2 ^ drop == 2 * (n % 2 ^ drop) && n / 2 ^ drop % 2 == 1)
      omega
    · have h3 : n / 2 ^ drop = B := by omega
      have h4 := Nat.div_add_mod n (2 ^ drop)
      rw [h3, Nat.mul_comm] at h4
      have h5 : n % 2 ^ drop = 0 := by omega
      have h6 : ¬ 2 ^ drop < 2 * 0 := by omega
      have h7 : (2 ^ drop == 2 * 0) = false := beq_false_of_ne (by omega)
      rw [h5, h3, h7]
      simp [h6]
  · rw [Nat.min_eq_right hd]
    rcases Nat.eq_zero_or_pos n with h0 | h0
    · subst h0
      simp
    · have h1 : n < 2 ^ (n.log2 + 1) := Nat.lt_log2_self
      have h2 : 2 ^ (n.log2 + 2) = 2 * 2 ^ (n.log2 + 1) := by rw [Nat.pow_succ, Nat.mul_comm]
      have h3 : n / 2 ^ (n.log2 + 2) = 0 := Nat.div_eq_of_lt (by omega)
      have h4 : n % 2 ^ (n.log2 + 2) = n := Nat.mod_eq_of_lt (by omega)
      rw [h3, h4]
      have h6 : ¬ 2 ^ (n.log2 + 2) < 2 * n := by omega
      have h7 : (2 ^ (n.log2 + 2) == 2 * n) = false := beq_false_of_ne (by omega)
      rw [h7]
      simp [h6]

/-- A word below the rung of infinity stands for a number. -/
theorem read_word_number {neg : Bool} {r : Nat} (h : r < single.infRung) : ∃ s m e, single.read (single.word neg r) = .number s m e := by
  have hs : single.signWeight = 2147483648 := by decide
  have hi : single.infRung = 2139095040 := by decide
  rw [hi] at h
  have hm : single.word neg r % single.signWeight = r := by
    unfold Format.word
    rw [hs]
    cases neg
    · simp; omega
    · simp; omega
  unfold Format.read
  dsimp only
  rw [hm, hi]
  split
  · exact ⟨_, _, _, rfl⟩
  · exact ⟨_, _, _, rfl⟩

/-- **WHAT IS NOT TOO GREAT STAYS FINITE.** -/
theorem nearest_number {neg : Bool} {mag k : Nat} {place : Int} (hp : place + (k : Int) = 104) (h : mag ≤ 16777215 * 2 ^ k) : ∃ s m e, single.read (single.nearest neg mag place) = .number s m e := by
  unfold Format.nearest
  split
  · exact read_word_number (by decide)
  · rename_i hm
    have hb : single.binade = 8388608 := by decide
    have hi : single.infRung = 2139095040 := by decide
    have hl : single.leastPlace = -149 := by decide
    have hf : ((single.fractionBits : Nat) : Int) = 23 := by decide
    dsimp only
    apply read_word_number
    rw [hb, hi, hl, hf]
    have hL : 2 ^ mag.log2 ≤ mag := Nat.log2_self_le hm
    have hL2 : mag < 2 ^ (mag.log2 + 1) := Nat.lt_log2_self
    -- the greatest place
    have hlog : mag.log2 ≤ 23 + k := by
      rcases Nat.lt_or_ge (23 + k) mag.log2 with h1 | h1
      · exfalso
        have h2 : 2 ^ (24 + k) ≤ 2 ^ mag.log2 := Nat.pow_le_pow_right (by decide) (by omega)
        have h3 : 2 ^ (24 + k) = 16777216 * 2 ^ k := by rw [Nat.pow_add]
        have := Nat.two_pow_pos k
        omega
      · exact h1
    generalize hlast : max (place + (mag.log2 : Int) - 23) (-149) = last
    have hlast104 : last ≤ 104 := by omega
    have hlo : -149 ≤ last := by omega
    have hlo2 : place + (mag.log2 : Int) - 23 ≤ last := by omega
    -- what is kept
    have hkept : ∀ B : Nat, (∀ u d : Nat, (u : Int) - (d : Int) = place - last → (u = 0 ∨ d = 0) → mag * 2 ^ u ≤ B * 2 ^ d) →
        Toward.even.cut neg (mag <<< (place - last).toNat) (last - place).toNat ≤ B := by
      intro B hB
      refine cut_le ?_
      rw [Nat.shiftLeft_eq]
      exact hB _ _ (by omega) (by omega)
    rcases Int.lt_or_le last 104 with h1 | h1
    · have h2 := hkept 16777216 (fun u d hud h0 => by
        have h3 : mag.log2 + 1 + u ≤ 24 + d := by omega
        have h4 : mag * 2 ^ u ≤ 2 ^ (mag.log2 + 1) * 2 ^ u := Nat.mul_le_mul_right _ (Nat.le_of_lt hL2)
        have h5 : 2 ^ (mag.log2 + 1) * 2 ^ u ≤ 2 ^ 24 * 2 ^ d := by
          rw [← Nat.pow_add, ← Nat.pow_add]
          exact Nat.pow_le_pow_right (by decide) h3
        exact Nat.le_trans h4 h5)
      have h3 : (last - -149).toNat ≤ 252 := by omega
      have h4 : (last - -149).toNat * 8388608 ≤ 2113929216 := Nat.mul_le_mul_right 8388608 h3
      exact Nat.lt_of_le_of_lt (Nat.min_le_left _ _) (Nat.lt_of_le_of_lt (Nat.add_le_add h4 h2) (by decide))
    · have h1' : last = 104 := by omega
      subst h1'
      have h2 := hkept 16777215 (fun u d hud h0 => by
        rcases h0 with h0 | h0
        · subst h0
          have : d = k := by omega
          subst this
          simpa using h
        · subst h0
          have hk : k = 0 := by omega
          have hu : u = 0 := by omega
          subst hk hu
          simpa using h)
      have h3 : ((104 : Int) - -149).toNat * 8388608 ≤ 2122317824 := by decide
      exact Nat.lt_of_le_of_lt (Nat.min_le_left _ _) (Nat.lt_of_le_of_lt (Nat.add_le_add h3 h2) (by decide))


theorem read_bound {c : Nat} {s : Bool} {m : Nat} {e : Int} (h : single.read c = .number s m e) : m ≤ 16777215 ∧ -149 ≤ e ∧ e ≤ 104 := by
  unfold Format.read at h
  dsimp only at h
  have hb : single.binade = 8388608 := by decide
  have hi : single.infRung = 2139095040 := by decide
  have hl : single.leastPlace = -149 := by decide
  rw [hb, hi, hl] at h
  split at h
  · cases h
    omega
  · split at h
    · rename_i h1 h2
      cases h
      generalize c % single.signWeight = r at h1 h2 ⊢
      have h3 : r / 8388608 < 255 := Nat.div_lt_of_lt_mul h2
      have h4 := Nat.mod_lt r (show 0 < 8388608 by decide)
      have h5 : 1 ≤ r / 8388608 := (Nat.le_div_iff_mul_le (by decide)).2 (by omega)
      omega
    · split at h <;> cases h

/-- A quotient by what is at least 1. -/
theorem div_number {w d m n p : Nat} {s t : Bool} {i j : Int} (hw : single.read w = .number s m i) (hd : single.read d = .number t n j) (hj : j = -(p : Int)) (hp : p ≤ 23) (hn : 2 ^ p ≤ n) :
    ∃ r s' m' e', single.div w d = some r ∧ single.read r = .number s' m' e' := by
  obtain ⟨hm, hi1, hi2⟩ := read_bound hw
  have hpos := Nat.two_pow_pos p
  have hn0 : ¬ n = 0 := by omega
  have hlogn : p ≤ n.log2 := (Nat.le_log2 hn0).2 hn
  have hlogm : m.log2 ≤ 23 := by
    rcases Nat.eq_zero_or_pos m with h0 | h0
    · subst h0; decide
    · have h1 := (Nat.log2_lt (n := m) (k := 24) (by omega)).2 (by omega)
      omega
  have hf : single.fractionBits + 2 = 25 := by decide
  unfold Format.div
  rw [hw, hd, hf]
  unfold Datum.quotient
  simp only [if_neg hn0, Option.map_some, Option.some.injEq, Format.write]
  generalize hmore : 25 + n.log2 - m.log2 = more
  have hge : p + 2 ≤ more := by omega
  rw [Nat.shiftLeft_eq]
  generalize hD : m * 2 ^ more = D
  have hM : ∃ M : Nat, M = m * 2 ^ (more + 1 - p) ∧ 2 * D = M * 2 ^ p := by
    refine ⟨_, rfl, ?_⟩
    rw [← hD, Nat.mul_assoc, ← Nat.pow_add, show more + 1 - p + p = more + 1 by omega, Nat.pow_succ]
    rw [Nat.mul_comm 2, Nat.mul_assoc]
  obtain ⟨M, hM1, hM2⟩ := hM
  have hle : 2 * D ≤ M * n := by rw [hM2]; exact Nat.mul_le_mul_left _ hn
  have hdm := Nat.div_add_mod D n
  have hmag : 2 * (D / n) + (D % n != 0).toNat ≤ M := by
    generalize D / n = q at hdm ⊢
    generalize hr : D % n = r at hdm ⊢
    have hq : n * (2 * q) + 2 * r ≤ n * M := by
      have : n * (2 * q) = 2 * (n * q) := by rw [Nat.mul_left_comm]
      rw [this, Nat.mul_comm n M]
      omega
    by_cases h0 : r = 0
    · subst h0
      have : n * (2 * q) ≤ n * M := by omega
      have h1 := Nat.le_of_mul_le_mul_left this (by omega)
      simpa using h1
    · have h1 : n * (2 * q) < n * M := by omega
      have h2 := Nat.lt_of_mul_lt_mul_left h1
      have h3 : (r != 0) = true := by simp [h0]
      rw [h3]
      simp only [Bool.toNat_true]
      omega
  have key : ∃ s' m' e', single.read (single.nearest (s ^^ t) (2 * (D / n) + (D % n != 0).toNat) (i - j - (more : Int) - 1)) = .number s' m' e' := by
   refine nearest_number (k := (104 - i).toNat + (more + 1 - p)) (by omega) (Nat.le_trans hmag ?_)
   rw [hM1, Nat.pow_add, ← Nat.mul_assoc]
   refine Nat.mul_le_mul_right _ (Nat.le_trans hm ?_)
   exact Nat.le_mul_of_pos_right _ (Nat.two_pow_pos _)
  obtain ⟨s', m', e', h⟩ := key
  exact ⟨_, s', m', e', rfl, h⟩

end Go.Sm

/- Plain laws: floats, ints, lists. -/
namespace Go.Sm
open Go

/-! ### Ints -/
theorem wrap64 {n : Int} (h1 : -9223372036854775808 ≤ n) (h2 : n < 9223372036854775808) : IntKind.i64.wrap n = n := by
  rw [IntKind.wrap_i64]
  omega

theorem wrap_succ {j n : Nat} (h : j < n) (hn : Nat.ble n big = true) : IntKind.i64.wrap ((j : Int) + 1) = ((j + 1 : Nat) : Int) := by
  have := Nat.le_of_ble_eq_true hn
  unfold big at this
  rw [wrap64 (by omega) (by omega)]
  omega

/-! ### Floats -/
theorem order_self (k : FloatKind) (a : Nat) : k.format.order a a = none ∨ k.format.order a a = some .eq := by
  unfold Ieee.Format.order
  cases h : k.format.read a with
  | nan neg t => exact .inl rfl
  | infinity neg => right; cases neg <;> rfl
  | number neg m e =>
    right
    simp [Ieee.Datum.order]

theorem order_none {k : FloatKind} {a b : Nat} (h : k.format.order a b = none) : isN k a = true ∨ isN k b = true := by
  unfold Ieee.Format.order at h
  unfold isN FloatKind.decode
  cases ha : k.format.read a with
  | nan neg t => exact .inl rfl
  | infinity s =>
    cases hb : k.format.read b with
    | nan neg t => exact .inr rfl
    | infinity t => rw [ha, hb] at h; cases h
    | number _ _ _ => rw [ha, hb] at h; cases h
  | number _ _ _ =>
    cases hb : k.format.read b with
    | nan neg t => exact .inr rfl
    | infinity t => rw [ha, hb] at h; cases h
    | number _ _ _ => rw [ha, hb] at h; cases h

theorem sameF_refl (a : Nat) : sameF a a = true := by
  unfold sameF
  cases h : fcmp .neq .f64 a a with
  | true => rfl
  | false =>
    have he : fcmp .eql .f64 a a = true := by
      rcases order_self .f64 a with h1 | h1
      · simp [fcmp, h1] at h
      · simp [fcmp, h1]
    simp only [Bool.or_self]
    cases fcmp .eql .f64 a 0 with
    | true => simp
    | false => simpa using he

/-- A float is finite where it stands for a number. -/
theorem fin_iff (c : Nat) : fin c = true ↔ ∃ s m e, Ieee.single.read c = .number s m e := by
  unfold fin
  constructor
  · intro h
    cases hr : Ieee.single.read c with
    | number s m e => exact ⟨s, m, e, rfl⟩
    | nan s t =>
      have hn : isN .f32 c = true := by
        show (Ieee.single.read c).isNaN = true
        rw [hr]; rfl
      have : fop .sub .f32 c c = nanOf .f32 := by unfold fop; rw [floatBits_nan_left hn]; rfl
      rw [this] at h
      exact absurd h (by decide)
    | infinity s =>
      have : fop .sub .f32 c c = nanOf .f32 := by
        have h2 : floatBits .sub .f32 c c = none := by
          show Ieee.single.sub c c = none
          unfold Ieee.Format.sub
          rw [hr]
          cases s <;> rfl
        unfold fop
        rw [h2]
        rfl
      rw [this] at h
      exact absurd h (by decide)
  · rintro ⟨s, m, e, hr⟩
    have : fop .sub .f32 c c = 0 := by
      have h2 : floatBits .sub .f32 c c = some 0 := by
        show Ieee.single.sub c c = some 0
        unfold Ieee.Format.sub
        rw [hr]
        have h3 : Ieee.signed s m 0 + Ieee.signed (!s) m 0 = 0 := by cases s <;> simp [Ieee.signed] <;> omega
        cases s <;> simp [Ieee.Datum.sum, Ieee.Datum.opposite, Ieee.Format.write, Ieee.Format.nearest, Ieee.Format.word, Ieee.signed, Int.add_right_neg, Int.add_left_neg]
      unfold fop
      rw [h2]
      rfl
    rw [this]
    decide

theorem sameW_refl (a : Nat) : sameW a a = true := sameF_refl _
theorem sameI_refl (a : Int) : sameI a a = true := by simp [sameI]
theorem eqEdgeF_refl (a : EdgeV) : eqEdgeF a a = true := by simp [eqEdgeF, sameF_refl]

theorem fin_notNaN {c : Nat} (h : fin c = true) : isN .f32 c = false := by
  obtain ⟨s, m, e, hr⟩ := (fin_iff c).1 h
  show (Ieee.single.read c).isNaN = false
  rw [hr]
  rfl

theorem notPos_eq (c : Nat) : notPos c = !above c := by
  unfold notPos above
  cases h : fin c with
  | false => rfl
  | true =>
    have hn := fin_notNaN h
    simp only [Bool.not_true, Bool.false_or, Bool.true_and]
    unfold fcmp
    cases ho : FloatKind.f32.format.order c 0 with
    | none => rcases order_none ho with h1 | h1
              · rw [hn] at h1; cases h1
              · exact absurd h1 (by decide)
    | some o => cases o <;> rfl

theorem notFin_fun : notFin = fun c => !fin c := rfl
theorem notPos_fun : notPos = fun c => !above c := funext notPos_eq

theorem eqLineF_refl (a : LineV) : eqLineF a a = true := by simp [eqLineF, sameF_refl]

theorem okLine_kind {l : LineV} (h : okLine l = true) : 0 ≤ l.k ∧ l.k ≤ 3 := by
  unfold okLine within at h
  simp only [Bool.and_eq_true, decide_eq_true_eq] at h
  exact h.2

theorem cmp_leq (a b : Int) : (some (compare a b) == some Ordering.lt || some (compare a b) == some Ordering.eq) = decide (a ≤ b) := by
  show (some (compareOfLessAndEq a b) == some Ordering.lt || some (compareOfLessAndEq a b) == some Ordering.eq) = decide (a ≤ b)
  unfold compareOfLessAndEq
  rcases Int.lt_trichotomy a b with h | h | h
  · have h2 : a ≤ b := by omega
    simp [h, h2]
  · subst h; simp
  · have h2 : ¬ a < b := by omega
    have h3 : ¬ a = b := by omega
    have h4 : ¬ a ≤ b := by omega
    simp [h2, h3, h4]
theorem cmp_geq (a b : Int) : (some (compare a b) == some Ordering.gt || some (compare a b) == some Ordering.eq) = decide (b ≤ a) := by
  show (some (compareOfLessAndEq a b) == some Ordering.gt || some (compareOfLessAndEq a b) == some Ordering.eq) = decide (b ≤ a)
  unfold compareOfLessAndEq
  rcases Int.lt_trichotomy a b with h | h | h
  · have h2 : ¬ b ≤ a := by omega
    simp [h, h2]
  · subst h; simp
  · have h2 : ¬ a < b := by omega
    have h3 : ¬ a = b := by omega
    have h4 : b ≤ a := by omega
    simp [h2, h3, h4]
theorem cmp_lss (a b : Int) : (some (compare a b) == some Ordering.lt) = decide (a < b) := by
  show (some (compareOfLessAndEq a b) == some Ordering.lt) = decide (a < b)
  unfold compareOfLessAndEq
  rcases Int.lt_trichotomy a b with h | h | h
  · simp [h]
  · subst h; simp
  · have h2 : ¬ a < b := by omega
    have h3 : ¬ a = b := by omega
    simp [h2, h3]

theorem read_neg {c : Nat} (h : isN .f32 c = false) : Ieee.single.read (fneg .f32 c) = (Ieee.single.read c).opposite := by
  have e : fneg .f32 c = c ^^^ 2 ^ 31 := by unfold fneg; rw [h]; rfl
  rw [e]
  have hs : Ieee.single.signWeight = 2 ^ 31 := by decide
  have h1 : (c ^^^ 2 ^ 31) % 2 ^ 31 = c % 2 ^ 31 := by
    have := negFloat_mod Ieee.single c
    rw [hs] at this
    exact this
  have h2 : ((c ^^^ 2 ^ 31) / 2 ^ 31 % 2 == 1) = !(c / 2 ^ 31 % 2 == 1) := by
    rw [← Nat.shiftRight_eq_div_pow, ← Nat.shiftRight_eq_div_pow, Nat.shiftRight_xor_distrib]
    have h3 : (2 ^ 31 >>> 31 : Nat) = 1 := by decide
    rw [h3]
    have h4 : ((c >>> 31 ^^^ 1) % 2 = 1) ↔ ¬ ((c >>> 31) % 2 = 1) := by
      rw [Nat.xor_mod_two_eq_one]
      simp
    rw [Bool.eq_iff_iff]
    simp only [beq_iff_eq, Bool.not_eq_true', beq_eq_false_iff_ne, ne_eq]
    exact h4
  unfold Ieee.Format.read
  rw [hs]
  dsimp only
  rw [h1, h2]
  split
  · rfl
  · split
    · rfl
    · split
      · rfl
      · rfl

/-- From -1 to 1: by the sign, or by the magnitude. -/
theorem unit_mag (x : Nat) : unit x = fcmp .leq .f32 (mag x) 1065353216 := by
  have r0 : Ieee.single.read 0 = .number false 0 (-149) := by decide
  have r1 : Ieee.single.read 1065353216 = .number false 8388608 (-23) := by decide
  have r2 : Ieee.single.read 3212836864 = .number true 8388608 (-23) := by decide
  have ord : ∀ a b : Nat, FloatKind.f32.format.order a b = (Ieee.single.read a).order (Ieee.single.read b) := fun _ _ => rfl
  unfold unit mag
  cases hr : Ieee.single.read x with
  | nan s t => simp [fcmp, ord, hr, Ieee.Datum.order]
  | infinity s =>
    have hn : isN .f32 x = false := by show (Ieee.single.read x).isNaN = false; rw [hr]; rfl
    cases s with
    | false => simp [fcmp, ord, hr, r0, r1, r2, Ieee.Datum.order]
    | true => simp [fcmp, ord, hr, r0, r1, r2, read_neg hn, Ieee.Datum.order, Ieee.Datum.opposite]
  | number s m e =>
    have hn : isN .f32 x = false := by show (Ieee.single.read x).isNaN = false; rw [hr]; rfl
    have hB : 0 < 8388608 <<< (-23 - min e (-23)).toNat := by rw [Nat.shiftLeft_eq]; exact Nat.mul_pos (by decide) (Nat.two_pow_pos _)
    cases s with
    | false =>
      have h1 : fcmp .lss .f32 x 0 = false := by
        simp only [fcmp, ord, hr, r0, Ieee.Datum.order, cmp_lss, Ieee.signed, Bool.false_eq_true, if_false, Nat.zero_shiftLeft]
        generalize m <<< (e - min e (-149)).toNat = A
        simp only [decide_eq_false_iff_not]
        omega
      have h2 : fcmp .geq .f32 x 3212836864 = true := by
        simp only [fcmp, ord, hr, r2, Ieee.Datum.order, cmp_geq, Ieee.signed, Bool.false_eq_true, if_false, if_true]
        generalize m <<< (e - min e (-23)).toNat = A
        generalize 8388608 <<< (-23 - min e (-23)).toNat = B
        simp only [decide_eq_true_eq]
        omega
      rw [h1, h2]
      rfl
    | true =>
      have h3 : fcmp .leq .f32 x 1065353216 = true := by
        simp only [fcmp, ord, hr, r1, Ieee.Datum.order, cmp_leq, Ieee.signed, Bool.false_eq_true, if_false, if_true]
        generalize m <<< (e - min e (-23)).toNat = A
        generalize 8388608 <<< (-23 - min e (-23)).toNat = B
        simp only [decide_eq_true_eq]
        omega
      have h2 : fcmp .geq .f32 x 3212836864 = decide (m <<< (e - min e (-23)).toNat ≤ 8388608 <<< (-23 - min e (-23)).toNat) := by
        simp only [fcmp, ord, hr, r2, Ieee.Datum.order, cmp_geq, Ieee.signed, if_true]
        generalize m <<< (e - min e (-23)).toNat = A
        generalize 8388608 <<< (-23 - min e (-23)).toNat = B
        rw [decide_eq_decide]
        omega
      rw [h3, Bool.and_true, h2]
      cases h1 : fcmp .lss .f32 x 0 with
      | true =>
        dsimp only
        simp only [fcmp, ord, read_neg hn, hr, r1, Ieee.Datum.order, Ieee.Datum.opposite, cmp_leq, Ieee.signed, Bool.not_true, Bool.false_eq_true, if_false]
        generalize m <<< (e - min e (-23)).toNat = A
        generalize 8388608 <<< (-23 - min e (-23)).toNat = B
        rw [decide_eq_decide]
        omega
      | false =>
        have hm : m <<< (e - min e (-149)).toNat = 0 := by
          simp only [fcmp, ord, hr, r0, Ieee.Datum.order, cmp_lss, Ieee.signed, Bool.false_eq_true, if_false, if_true, Nat.zero_shiftLeft] at h1
          generalize m <<< (e - min e (-149)).toNat = A at h1 ⊢
          simp only [decide_eq_false_iff_not] at h1
          omega
        rw [Nat.shiftLeft_eq, Nat.mul_eq_zero] at hm
        have hm0 : m = 0 := by
          rcases hm with hm | hm
          · exact hm
          · have := Nat.two_pow_pos (e - min e (-149)).toNat
            omega
        subst hm0
        dsimp only
        rw [h3]
        simp

theorem notEdge_fun (v : Int) : notEdge v = fun e => !edgeOk v e := rfl

/-- A small whole number as a float is at least 1. -/
def fintOk (n : Nat) : Bool := match Ieee.single.read (fint .f32 (n : Int)) with
  | .number _ m j => decide (j ≤ 0) && (decide (-23 ≤ j) && decide (2 ^ (-j).toNat ≤ m))
  | _ => false

theorem fintOk_all : (List.range 101).all (fun n => n == 0 || fintOk n) = true := by decide +kernel

theorem fint_read {n : Int} (h1 : 1 ≤ n) (h2 : n ≤ 100) : ∃ s m j, ∃ p : Nat, Ieee.single.read (fint .f32 n) = .number s m j ∧ j = -(p : Int) ∧ p ≤ 23 ∧ 2 ^ p ≤ m := by
  have h := List.all_eq_true.1 fintOk_all n.toNat (List.mem_range.2 (by omega))
  have h3 : (n.toNat == 0) = false := beq_false_of_ne (by omega)
  rw [h3, Bool.false_or] at h
  unfold fintOk at h
  have h4 : ((n.toNat : Nat) : Int) = n := by omega
  rw [h4] at h
  split at h
  · rename_i s m j hr
    simp only [Bool.and_eq_true, decide_eq_true_eq] at h
    exact ⟨s, m, j, (-j).toNat, hr, by omega, by omega, h.2.2⟩
  · cases h

/-- A finite number by a small whole one is finite. -/
theorem fin_div {w : Nat} {n : Int} (h1 : above w = true) (h2 : within n 1 100 = true) : fin (fop .quo .f32 w (fint .f32 n)) = true := by
  unfold above at h1
  rw [Bool.and_eq_true] at h1
  unfold within at h2
  simp only [Bool.and_eq_true, decide_eq_true_eq] at h2
  obtain ⟨s, m, e, hr⟩ := (fin_iff w).1 h1.1
  obtain ⟨t, q, j, p, hd, hj, hp, hq⟩ := fint_read h2.1 h2.2
  obtain ⟨r, s', m', e', h3, h4⟩ := div_number hr hd hj hp hq
  have h5 : fop .quo .f32 w (fint .f32 n) = r := by
    unfold fop
    have : floatBits .quo .f32 w (fint .f32 n) = some r := h3
    rw [this]
    rfl
  rw [h5]
  exact (fin_iff r).2 ⟨s', m', e', h4⟩

theorem fint_notNaN (k : FloatKind) (n : Int) : isN k (fint k n) = false := nearest_notNaN k.format _ _ _

theorem heldF_marks : ∀ (m : Nat) (n : Int), heldF n (marks n m) = true
  | 0, _ => rfl
  | m + 1, n => by
    have h : fcmp .neq .f32 (fint .f32 n) (fint .f32 n) = false := by
      rcases order_self .f32 (fint .f32 n) with h | h
      · have hn := fint_notNaN .f32 n
        rcases order_none h with h1 | h1 <;> (rw [hn] at h1; cases h1)
      · simp [fcmp, h]
    simp [heldF, marks, h, heldF_marks m (n + 1)]
theorem heldI_marks : ∀ (m : Nat) (n : Int), heldI n (marksI n m) = true
  | 0, _ => rfl
  | m + 1, n => by simp [heldI, marksI, heldI_marks m (n + 1)]
theorem marks_len : ∀ (m : Nat) (n : Int), (marks n m).length = m
  | 0, _ => rfl
  | m + 1, n => by simp [marks, marks_len m]
theorem marksI_len : ∀ (m : Nat) (n : Int), (marksI n m).length = m
  | 0, _ => rfl
  | m + 1, n => by simp [marksI, marksI_len m]

/-! ### Lists -/
theorem diffs_len : ∀ xs ys : List Nat, (diffs xs ys).length ≤ xs.length
  | [], _ => by simp [diffs]
  | _ :: _, [] => by simp [diffs]
  | x :: xs, y :: ys => by have := diffs_len xs ys; simp [diffs]; omega
theorem diffOk_eq : ∀ {xs ys : List Nat}, xs.length = ys.length → diffOk xs ys = (xs.all fin && (ys.all fin && (diffs xs ys).all fin))
  | [], [], _ => rfl
  | x :: xs, y :: ys, h => by
    simp only [diffOk, diffs, List.all_cons, diffOk_eq (show xs.length = ys.length by simpa using h)]
    cases fin x <;> cases fin y <;> cases fin (fop .sub .f32 x y) <;> simp
  | [], _ :: _, h => by simp at h
  | _ :: _, [], h => by simp at h
theorem ints_len : ∀ (m : Nat) (i : Int), (ints i m).length = m
  | 0, _ => rfl
  | m + 1, i => by simp [ints, ints_len m]
theorem mem_ints : ∀ (m : Nat) (i x : Int), x ∈ ints i m → i ≤ x ∧ x < i + m
  | 0, _, _, h => by simp [ints] at h
  | m + 1, i, x, h => by
    simp only [ints, List.mem_cons] at h
    rcases h with h | h
    · omega
    · have := mem_ints m (i + 1) x h
      omega
theorem orders_len (p : Int → Bool) : (ordersOf p).length ≤ 201 := Nat.le_trans (List.length_filter_le _ _) (by rw [ints_len]; exact Nat.le_refl _)
theorem orders_congr {p q : Int → Bool} (h : ∀ n, n ≥ -100 → n ≤ 100 → p n = q n) : ordersOf p = ordersOf q := by
  unfold ordersOf
  refine List.filter_congr fun x hx => ?_
  have := mem_ints _ _ _ hx
  exact h x (by omega) (by omega)

theorem getq {n : Nat} {xs : List Nat} (h : n < xs.length) : xs[n]? = some (xs.getD n 0) := by simp [List.getD, h]

theorem set_take {α : Type} {l : List α} {j : Nat} (h : j < l.length) (a : α) (r : List α) : (l.set j a).take (j + 1) ++ r = l.take j ++ a :: r := by
  rw [List.take_succ_eq_append_getElem (by simpa using h), List.take_set_of_le (Nat.le_refl j)]
  simp

theorem all2_refl {α : Type} {p : α → α → Bool} (h : ∀ a, p a a = true) : ∀ l : List α, all2 p l l = true
  | [] => rfl
  | a :: l => by simp [all2, h a, all2_refl h l]

theorem any_firstAt {α : Type} (p : α → Bool) (xs : List α) : decide (firstAt p xs ≥ 0) = xs.any p := by
  unfold firstAt
  cases h : xs.findIdx? p with
  | some i =>
    have : xs.any p = true := by
      rw [List.findIdx?_eq_some_iff_getElem] at h
      obtain ⟨hi, hp, _⟩ := h
      exact List.any_eq_true.2 ⟨_, List.getElem_mem hi, hp⟩
    rw [this]
    simp
  | none =>
    rw [List.findIdx?_eq_none_iff] at h
    have : xs.any p = false := by
      rw [List.any_eq_false]
      intro x hx
      rw [h x hx]
      exact Bool.false_ne_true
    rw [this]
    rfl

theorem not_any {α : Type} (p : α → Bool) (xs : List α) : (!(xs.any fun x => !p x)) = xs.all p := (List.all_eq_not_any_not ..).symm

/-! ### What fits -/
theorem fits_f32 {s : SC} (h : NK.fits (.float .f32) s) : ∃ c, s = .fl .f32 c ∧ cn .f32 c = c ∧ c < 2 ^ 32 := by
  cases s with
  | fl q c => obtain ⟨rfl, h1, h2⟩ := h; exact ⟨c, rfl, h1, h2⟩
  | int _ _ => exact h.elim
  | bo _ => exact h.elim
  | cx _ _ _ => exact h.elim
  | no => exact h.elim
theorem fits_f64 {s : SC} (h : NK.fits (.float .f64) s) : ∃ c, s = .fl .f64 c ∧ cn .f64 c = c ∧ c < 2 ^ 64 := by
  cases s with
  | fl q c => obtain ⟨rfl, h1, h2⟩ := h; exact ⟨c, rfl, h1, h2⟩
  | int _ _ => exact h.elim
  | bo _ => exact h.elim
  | cx _ _ _ => exact h.elim
  | no => exact h.elim
theorem fits_i64 {s : SC} (h : NK.fits (.int .i64) s) : ∃ n, s = .int .i64 n ∧ -9223372036854775808 ≤ n ∧ n ≤ 9223372036854775807 := by
  cases s with
  | int q n => obtain ⟨rfl, h1, h2⟩ := h; exact ⟨n, rfl, h1, h2⟩
  | fl _ _ => exact h.elim
  | bo _ => exact h.elim
  | cx _ _ _ => exact h.elim
  | no => exact h.elim
theorem fits_bo {s : SC} (h : NK.fits .bool s) : ∃ b, s = .bo b := by
  cases s with
  | bo b => exact ⟨b, rfl⟩
  | int _ _ => exact h.elim
  | fl _ _ => exact h.elim
  | cx _ _ _ => exact h.elim
  | no => exact h.elim

section
variable {R : AK → Nat → FV → Prop} {a b c d e : AK} {p q r s t : Nat} {xs : List FV}
theorem aks1 (h : AKs R [a] [p] xs) : ∃ x, xs = [x] ∧ R a p x := by
  match xs, h with
  | [x], h => exact ⟨x, rfl, h.1⟩
theorem aks2 (h : AKs R [a, b] [p, q] xs) : ∃ x y, xs = [x, y] ∧ R a p x ∧ R b q y := by
  match xs, h with
  | [x, y], h => exact ⟨x, y, rfl, h.1, h.2.1⟩
theorem aks3 (h : AKs R [a, b, c] [p, q, r] xs) : ∃ x y z, xs = [x, y, z] ∧ R a p x ∧ R b q y ∧ R c r z := by
  match xs, h with
  | [x, y, z], h => exact ⟨x, y, z, rfl, h.1, h.2.1, h.2.2.1⟩
theorem aks4 (h : AKs R [a, b, c, d] [p, q, r, s] xs) : ∃ x y z u, xs = [x, y, z, u] ∧ R a p x ∧ R b q y ∧ R c r z ∧ R d s u := by
  match xs, h with
  | [x, y, z, u], h => exact ⟨x, y, z, u, rfl, h.1, h.2.1, h.2.2.1, h.2.2.2.1⟩
theorem aks5 (h : AKs R [a, b, c, d, e] [p, q, r, s, t] xs) : ∃ x y z u v, xs = [x, y, z, u, v] ∧ R a p x ∧ R b q y ∧ R c r z ∧ R d s u ∧ R e t v := by
  match xs, h with
  | [x, y, z, u, v], h => exact ⟨x, y, z, u, v, rfl, h.1, h.2.1, h.2.2.1, h.2.2.2.1, h.2.2.2.2.1⟩
end

end Go.Sm

/- Floats by their rungs: what a word stands for as a whole number, how rounding keeps order. -/
namespace Go.Sm
open Go Ieee

variable {f : Format}

/-- The magnitude at a rung, in units of the least place. -/
def rv (f : Format) (r : Nat) : Nat := if r < f.binade then r else (f.binade + r % f.binade) * 2 ^ (r / f.binade - 1)

theorem binade_pos (f : Format) : 0 < f.binade := Nat.two_pow_pos _

theorem rung_split (f : Format) (r : Nat) : ∃ m e, r = e * f.binade + m ∧ m < 2 * f.binade ∧ (0 < e → f.binade ≤ m) ∧ rv f r = m * 2 ^ e := by
  have hb := binade_pos f
  unfold rv
  by_cases h : r < f.binade
  · exact ⟨r, 0, by omega, by omega, fun h => absurd h (by omega), by simp [h]⟩
  · have h1 : 1 ≤ r / f.binade := (Nat.le_div_iff_mul_le hb).2 (by omega)
    have h2 := Nat.div_add_mod r f.binade
    have h3 := Nat.mod_lt r hb
    refine ⟨f.binade + r % f.binade, r / f.binade - 1, ?_, by omega, fun _ => by omega, by simp [h]⟩
    have h4 : (r / f.binade - 1) * f.binade + f.binade = r / f.binade * f.binade := by
      rw [← Nat.succ_mul]
      congr 1
      omega
    rw [Nat.mul_comm] at h2
    omega

theorem split_lt {b m e m' e' : Nat} (h1 : m < 2 * b) (h1' : 0 < e' → b ≤ m') (h2' : m' < 2 * b) (h2 : 0 < e → b ≤ m) (h : e * b + m < e' * b + m') : m * 2 ^ e < m' * 2 ^ e' := by
  rcases Nat.lt_trichotomy e e' with he | he | he
  · have h3 : m * 2 ^ e < 2 * b * 2 ^ e := Nat.mul_lt_mul_of_pos_right h1 (Nat.two_pow_pos _)
    have h4 : 2 * b * 2 ^ e = b * 2 ^ (e + 1) := by rw [Nat.pow_succ, Nat.mul_comm 2 b, Nat.mul_assoc, Nat.mul_comm 2]
    have h5 : b * 2 ^ (e + 1) ≤ m' * 2 ^ e' := Nat.mul_le_mul (h1' (by omega)) (Nat.pow_le_pow_right (by decide) he)
    omega
  · subst he
    exact Nat.mul_lt_mul_of_pos_right (by omega) (Nat.two_pow_pos _)
  · have h3 : (e' + 1) * b ≤ e * b := Nat.mul_le_mul_right _ he
    rw [Nat.succ_mul] at h3
    have := h2 (by omega)
    omega

theorem rv_lt {a b : Nat} (h : a < b) : rv f a < rv f b := by
  obtain ⟨m, e, h1, h2, h3, h4⟩ := rung_split f a
  obtain ⟨m', e', h1', h2', h3', h4'⟩ := rung_split f b
  rw [h4, h4']
  exact split_lt h2 h3' h2' h3 (by omega)

theorem rv_le {a b : Nat} (h : a ≤ b) : rv f a ≤ rv f b := by
  rcases Nat.lt_or_ge a b with h1 | h1
  · exact Nat.le_of_lt (rv_lt h1)
  · rw [show a = b by omega]; exact Nat.le_refl _

theorem rv_inj {a b : Nat} (h : rv f a = rv f b) : a = b := by
  rcases Nat.lt_trichotomy a b with h1 | h1 | h1
  · have := rv_lt (f := f) h1; omega
  · exact h1
  · have := rv_lt (f := f) h1; omega

theorem rv_lt_iff {a b : Nat} : rv f a < rv f b ↔ a < b := by
  constructor
  · intro h
    rcases Nat.lt_or_ge a b with h1 | h1
    · exact h1
    · have := rv_le (f := f) h1; omega
  · exact rv_lt

theorem rv_zero (f : Format) : rv f 0 = 0 := by unfold rv; simp [binade_pos f]

/-- The rung that a magnitude is rounded to. -/
def nrung (f : Format) (mag : Nat) (place : Int) : Nat :=
  if mag = 0 then 0 else min ((max (place + mag.log2 - f.fractionBits) f.leastPlace - f.leastPlace).toNat * f.binade + Toward.even.cut false (mag <<< (place - max (place + mag.log2 - f.fractionBits) f.leastPlace).toNat) (max (place + mag.log2 - f.fractionBits) f.leastPlace - place).toNat) f.infRung

theorem nearest_eq (f : Format) (neg : Bool) (mag : Nat) (place : Int) : f.nearest neg mag place = f.word neg (nrung f mag place) := by
  unfold Format.nearest nrung
  split <;> rfl

theorem cut_ge {neg : Bool} {n drop B : Nat} (h : B * 2 ^ drop ≤ n) : B ≤ Toward.even.cut neg n drop := by
  unfold Toward.cut
  dsimp only
  rw [Nat.one_shiftLeft]
  rcases Nat.le_total drop (n.log2 + 2) with hd | hd
  · rw [Nat.min_eq_left hd]
    have hg := Nat.two_pow_pos drop
    have h1 : B ≤ n / 2 ^ drop := (Nat.le_div_iff_mul_le hg).2 h
    omega
  · have hB : B = 0 := by
      rcases Nat.eq_zero_or_pos B with h0 | h0
      · exact h0
      · exfalso
        have h1 : n < 2 ^ (n.log2 + 1) := Nat.lt_log2_self
        have h2 : 2 ^ (n.log2 + 1) ≤ 2 ^ drop := Nat.pow_le_pow_right (by decide) (by omega)
        have h3 : 2 ^ drop ≤ B * 2 ^ drop := Nat.le_mul_of_pos_left _ h0
        omega
    rw [hB]
    exact Nat.zero_le _

/-- **ROUNDING GOES NOT ABOVE A RUNG THAT IS NOT BELOW.** -/
theorem nrung_le {mag : Nat} {place : Int} {b k1 k2 : Nat} (hk : (k1 : Int) - (k2 : Int) = place - f.leastPlace) (h : mag * 2 ^ k1 ≤ rv f b * 2 ^ k2) : nrung f mag place ≤ b := by
  unfold nrung
  split
  · exact Nat.zero_le _
  rename_i hm
  obtain ⟨mb, eb, hb1, hb2, hb3, hb4⟩ := rung_split f b
  have hB : f.binade = 2 ^ f.fractionBits := rfl
  have hL : 2 ^ mag.log2 ≤ mag := Nat.log2_self_le hm
  have hL2 : mag < 2 ^ (mag.log2 + 1) := Nat.lt_log2_self
  generalize hlast : max (place + (mag.log2 : Int) - f.fractionBits) f.leastPlace = last
  refine Nat.le_trans (Nat.min_le_left _ _) ?_
  obtain ⟨el, hel⟩ : ∃ el : Nat, last = f.leastPlace + el := ⟨(last - f.leastPlace).toNat, by omega⟩
  have he : (last - f.leastPlace).toNat = el := by omega
  rw [he, hb1]
  rw [hb4, Nat.mul_assoc, ← Nat.pow_add] at h
  rcases Nat.lt_trichotomy el eb with h1 | h1 | h1
  · -- the last digit lies lower
    have hkept : Toward.even.cut false (mag <<< (place - last).toNat) (last - place).toNat ≤ 2 * f.binade := by
      refine cut_le ?_
      rw [Nat.shiftLeft_eq, hB, ← Nat.pow_succ', ← Nat.pow_add]
      have h2 : mag * 2 ^ (place - last).toNat ≤ 2 ^ (mag.log2 + 1) * 2 ^ (place - last).toNat := Nat.mul_le_mul_right _ (Nat.le_of_lt hL2)
      rw [← Nat.pow_add] at h2
      exact Nat.le_trans h2 (Nat.pow_le_pow_right (by decide) (by omega))
    have h2 := hb3 (by omega)
    have h3 : (el + 1) * f.binade ≤ eb * f.binade := Nat.mul_le_mul_right _ h1
    rw [Nat.succ_mul] at h3
    omega
  · subst h1
    refine Nat.add_le_add_left ?_ _
    refine cut_le ?_
    rw [Nat.shiftLeft_eq]
    -- both sides by 2 ^ (k2 + ..)
    rcases Int.le_total place last with h2 | h2
    · have h3 : (place - last).toNat = 0 := by omega
      rw [h3, Nat.pow_zero, Nat.mul_one]
      have h4 : el + k2 = k1 + (last - place).toNat := by omega
      rw [h4, Nat.add_comm, Nat.pow_add, ← Nat.mul_assoc] at h
      exact Nat.le_of_mul_le_mul_right h (Nat.two_pow_pos _)
    · have h3 : (last - place).toNat = 0 := by omega
      rw [h3, Nat.pow_zero, Nat.mul_one]
      have h4 : k1 = (place - last).toNat + (el + k2) := by omega
      rw [h4, Nat.pow_add, ← Nat.mul_assoc] at h
      exact Nat.le_of_mul_le_mul_right h (Nat.two_pow_pos _)
  · exfalso
    have h2 : last = place + (mag.log2 : Int) - f.fractionBits := by omega
    have h3 : 2 ^ (mag.log2 + k1) ≤ mag * 2 ^ k1 := by rw [Nat.pow_add]; exact Nat.mul_le_mul_right _ hL
    have h4 : mb * 2 ^ (eb + k2) < 2 ^ (f.fractionBits + 1) * 2 ^ (eb + k2) := by
      refine Nat.mul_lt_mul_of_pos_right ?_ (Nat.two_pow_pos _)
      rw [Nat.pow_succ']
      exact hb2
    rw [← Nat.pow_add] at h4
    have h5 : 2 ^ (f.fractionBits + 1 + (eb + k2)) ≤ 2 ^ (mag.log2 + k1) := Nat.pow_le_pow_right (by decide) (by omega)
    omega

/-- **NOR BELOW ONE THAT IS NOT ABOVE.** -/
theorem nrung_ge {mag : Nat} {place : Int} {b k1 k2 : Nat} (hk : (k1 : Int) - (k2 : Int) = place - f.leastPlace) (h : rv f b * 2 ^ k2 ≤ mag * 2 ^ k1) (hinf : b ≤ f.infRung) : b ≤ nrung f mag place := by
  unfold nrung
  split
  · rename_i hm
    subst hm
    have h1 : rv f b * 2 ^ k2 = 0 := by simpa using h
    rcases Nat.mul_eq_zero.1 h1 with h2 | h2
    · have := rv_inj (f := f) (h2.trans (rv_zero f).symm)
      omega
    · have := Nat.two_pow_pos k2
      omega
  rename_i hm
  obtain ⟨mb, eb, hb1, hb2, hb3, hb4⟩ := rung_split f b
  have hB : f.binade = 2 ^ f.fractionBits := rfl
  have hL : 2 ^ mag.log2 ≤ mag := Nat.log2_self_le hm
  have hL2 : mag < 2 ^ (mag.log2 + 1) := Nat.lt_log2_self
  generalize hlast : max (place + (mag.log2 : Int) - f.fractionBits) f.leastPlace = last
  refine Nat.le_min.2 ⟨?_, hinf⟩
  obtain ⟨el, hel⟩ : ∃ el : Nat, last = f.leastPlace + el := ⟨(last - f.leastPlace).toNat, by omega⟩
  have he : (last - f.leastPlace).toNat = el := by omega
  rw [he, hb1]
  rw [hb4, Nat.mul_assoc, ← Nat.pow_add] at h
  rcases Nat.lt_trichotomy el eb with h1 | h1 | h1
  · exfalso
    have h2 := hb3 (by omega)
    have h3 : mag * 2 ^ k1 < 2 ^ (mag.log2 + 1) * 2 ^ k1 := Nat.mul_lt_mul_of_pos_right hL2 (Nat.two_pow_pos _)
    rw [← Nat.pow_add] at h3
    have h4 : f.binade * 2 ^ (eb + k2) ≤ mb * 2 ^ (eb + k2) := Nat.mul_le_mul_right _ h2
    rw [hB, ← Nat.pow_add] at h4
    have h5 : 2 ^ (mag.log2 + 1 + k1) ≤ 2 ^ (f.fractionBits + (eb + k2)) := Nat.pow_le_pow_right (by decide) (by omega)
    omega
  · subst h1
    refine Nat.add_le_add_left ?_ _
    refine cut_ge ?_
    rw [Nat.shiftLeft_eq]
    rcases Int.le_total place last with h2 | h2
    · have h3 : (place - last).toNat = 0 := by omega
      rw [h3, Nat.pow_zero, Nat.mul_one]
      have h4 : el + k2 = k1 + (last - place).toNat := by omega
      rw [h4, Nat.add_comm k1, Nat.pow_add, ← Nat.mul_assoc] at h
      exact Nat.le_of_mul_le_mul_right h (Nat.two_pow_pos _)
    · have h3 : (last - place).toNat = 0 := by omega
      rw [h3, Nat.pow_zero, Nat.mul_one]
      have h4 : k1 = (place - last).toNat + (el + k2) := by omega
      rw [h4, Nat.pow_add 2 (place - last).toNat, ← Nat.mul_assoc] at h
      exact Nat.le_of_mul_le_mul_right h (Nat.two_pow_pos _)
  · have h2 : last = place + (mag.log2 : Int) - f.fractionBits := by omega
    have hkept : f.binade ≤ Toward.even.cut false (mag <<< (place - last).toNat) (last - place).toNat := by
      refine cut_ge ?_
      rw [Nat.shiftLeft_eq, hB, ← Nat.pow_add]
      have h3 : 2 ^ mag.log2 * 2 ^ (place - last).toNat ≤ mag * 2 ^ (place - last).toNat := Nat.mul_le_mul_right _ hL
      rw [← Nat.pow_add] at h3
      exact Nat.le_trans (Nat.pow_le_pow_right (by decide) (by omega)) h3
    have h3 : (eb + 1) * f.binade ≤ el * f.binade := Nat.mul_le_mul_right _ h1
    rw [Nat.succ_mul] at h3
    omega

theorem nrung_exact {mag : Nat} {place : Int} {b k1 k2 : Nat} (hk : (k1 : Int) - (k2 : Int) = place - f.leastPlace) (h : rv f b * 2 ^ k2 = mag * 2 ^ k1) (hinf : b ≤ f.infRung) : nrung f mag place = b :=
  Nat.le_antisymm (nrung_le hk (Nat.le_of_eq h.symm)) (nrung_ge hk (Nat.le_of_eq h) hinf)

theorem nrung_inf (f : Format) (mag : Nat) (place : Int) : nrung f mag place ≤ f.infRung := by
  unfold nrung
  split
  · exact Nat.zero_le _
  · exact Nat.min_le_right _ _

/-! ### Words -/

theorem word_mod (f : Format) (neg : Bool) {r : Nat} (h : r < f.signWeight) : f.word neg r % f.signWeight = r := by
  unfold Format.word
  cases neg
  · exact Nat.mod_eq_of_lt h
  · simp [Nat.mod_eq_of_lt h]

theorem word_sign (f : Format) (neg : Bool) {r : Nat} (h : r < f.signWeight) : (f.word neg r / f.signWeight % 2 == 1) = neg := by
  have hp : 0 < f.signWeight := Nat.two_pow_pos _
  unfold Format.word
  cases neg
  · simp [Nat.div_eq_of_lt h]
  · simp only [if_true]
    rw [Nat.add_div_left _ hp, Nat.div_eq_of_lt h]
    rfl

/-- What a word below the rung of infinity stands for. -/
theorem read_rung (f : Format) {w : Nat} (h : w % f.signWeight < f.infRung) : ∃ m e : Nat, f.read w = .number (w / f.signWeight % 2 == 1) m (f.leastPlace + (e : Int)) ∧ rv f (w % f.signWeight) = m * 2 ^ e := by
  unfold Format.read
  dsimp only
  by_cases h1 : w % f.signWeight < f.binade
  · rw [if_pos h1]
    exact ⟨w % f.signWeight, 0, by simp, by unfold rv; simp [h1]⟩
  · rw [if_neg h1, if_pos h]
    exact ⟨_, _, rfl, by unfold rv; simp [h1]⟩

theorem binade_le (k : FloatKind) : k.format.binade ≤ k.format.infRung := by cases k <;> decide

theorem read_number_rung {k : FloatKind} {w : Nat} {s : Bool} {m : Nat} {i : Int} (h : k.format.read w = .number s m i) :
    w % k.format.signWeight < k.format.infRung ∧ s = (w / k.format.signWeight % 2 == 1) ∧ ∃ e : Nat, i = k.format.leastPlace + (e : Int) ∧ rv k.format (w % k.format.signWeight) = m * 2 ^ e := by
  have hlt : w % k.format.signWeight < k.format.infRung := by
    have hb := binade_le k
    unfold Format.read at h
    dsimp only at h
    split at h
    · omega
    · split at h
      · assumption
      · split at h <;> cases h
  obtain ⟨m', e, h1, h2⟩ := read_rung k.format hlt
  rw [h] at h1
  cases h1
  exact ⟨hlt, rfl, e, rfl, h2⟩

/-! ### The value of a word, as a whole number of least places -/

/-- A word that stands for a number. -/
def isNum (k : FloatKind) (w : Nat) : Bool := match k.format.read w with
  | .number .. => true
  | _ => false

def sgn (k : FloatKind) (w : Nat) : Bool := w / k.format.signWeight % 2 == 1
def fv (k : FloatKind) (w : Nat) : Int := if sgn k w then -(rv k.format (w % k.format.signWeight) : Int) else (rv k.format (w % k.format.signWeight) : Int)

theorem isNum_read {k : FloatKind} {w : Nat} (h : isNum k w = true) : ∃ m e : Nat, k.format.read w = .number (sgn k w) m (k.format.leastPlace + (e : Int)) ∧ rv k.format (w % k.format.signWeight) = m * 2 ^ e := by
  unfold isNum at h
  split at h
  · rename_i s m i hr
    obtain ⟨h1, h2, e, h3, h4⟩ := read_number_rung hr
    refine ⟨m, e, ?_, h4⟩
    rw [hr, h2, h3]
    rfl
  · cases h

theorem isNum_lt {k : FloatKind} {w : Nat} (h : isNum k w = true) : w % k.format.signWeight < k.format.infRung := by
  unfold isNum at h
  split at h
  · rename_i s m i hr
    exact (read_number_rung hr).1
  · cases h

theorem isNum_of_lt {k : FloatKind} {w : Nat} (h : w % k.format.signWeight < k.format.infRung) : isNum k w = true := by
  obtain ⟨m, e, h1, _⟩ := read_rung k.format h
  unfold isNum
  rw [h1]

theorem signed_mul (s : Bool) (m e b : Nat) : signed s m (e + b) = signed s m e * 2 ^ b := by
  unfold signed
  rw [Nat.shiftLeft_eq, Nat.shiftLeft_eq, Nat.pow_add, ← Nat.mul_assoc]
  cases s
  · simp
  · simp [Int.neg_mul]

theorem fv_read {k : FloatKind} {w : Nat} {s : Bool} {m : Nat} {i : Int} (h : k.format.read w = .number s m i) : fv k w = signed s m (i - k.format.leastPlace).toNat := by
  obtain ⟨h1, h2, e, h3, h4⟩ := read_number_rung h
  unfold fv sgn signed
  rw [← h2, h4, h3, Nat.shiftLeft_eq]
  have : (k.format.leastPlace + (e : Int) - k.format.leastPlace).toNat = e := by omega
  rw [this]

/-- The order of two numbers is that of their values. -/
theorem order_fv {k : FloatKind} {x y : Nat} (hx : isNum k x = true) (hy : isNum k y = true) : k.format.order x y = some (compare (fv k x) (fv k y)) := by
  obtain ⟨m, e, h1, h2⟩ := isNum_read hx
  obtain ⟨n, e', h3, h4⟩ := isNum_read hy
  rw [fv_read h1, fv_read h3]
  unfold Format.order
  rw [h1, h3]
  simp only [Datum.order]
  congr 1
  have q1 : (k.format.leastPlace + (e : Int) - k.format.leastPlace).toNat = e := by omega
  have q2 : (k.format.leastPlace + (e' : Int) - k.format.leastPlace).toNat = e' := by omega
  rw [q1, q2]
  have key : ∀ (b : Nat) (u v : Int), compare u v = compare (u * 2 ^ b) (v * 2 ^ b) := by
    intro b u v
    have hp : (0 : Int) < 2 ^ b := Int.pow_pos (by decide)
    show compareOfLessAndEq u v = compareOfLessAndEq (u * 2 ^ b) (v * 2 ^ b)
    unfold compareOfLessAndEq
    have l1 : u * 2 ^ b < v * 2 ^ b ↔ u < v := Int.mul_lt_mul_right hp
    have l2 : u * 2 ^ b = v * 2 ^ b ↔ u = v := Int.mul_eq_mul_right_iff (Int.ne_of_gt hp)
    simp only [l1, l2]
  rcases Nat.le_total e e' with h | h
  · have b1 : (k.format.leastPlace + (e : Int) - min (k.format.leastPlace + (e : Int)) (k.format.leastPlace + (e' : Int))).toNat = 0 := by omega
    have b2 : (k.format.leastPlace + (e' : Int) - min (k.format.leastPlace + (e : Int)) (k.format.leastPlace + (e' : Int))).toNat = e' - e := by omega
    rw [b1, b2, key e, ← signed_mul, ← signed_mul, Nat.zero_add, Nat.sub_add_cancel h]
  · have b1 : (k.format.leastPlace + (e : Int) - min (k.format.leastPlace + (e : Int)) (k.format.leastPlace + (e' : Int))).toNat = e - e' := by omega
    have b2 : (k.format.leastPlace + (e' : Int) - min (k.format.leastPlace + (e : Int)) (k.format.leastPlace + (e' : Int))).toNat = 0 := by omega
    rw [b1, b2, key e', ← signed_mul, ← signed_mul, Nat.zero_add, Nat.sub_add_cancel h]

/-- Numbers of one value, not zero: one word. -/
theorem fv_inj {k : FloatKind} {x y : Nat} (hx : x < 2 * k.format.signWeight) (hy : y < 2 * k.format.signWeight) (h : fv k x = fv k y) (h0 : fv k x ≠ 0) : x = y := by
  have hp : 0 < k.format.signWeight := Nat.two_pow_pos _
  have key : sgn k x = sgn k y ∧ x % k.format.signWeight = y % k.format.signWeight := by
    unfold fv at h h0
    cases h1 : sgn k x <;> cases h2 : sgn k y <;> simp only [h1, h2, Bool.false_eq_true, if_false, if_true] at h h0
    · exact ⟨rfl, rv_inj (f := k.format) (by omega)⟩
    · omega
    · omega
    · exact ⟨rfl, rv_inj (f := k.format) (by omega)⟩
  obtain ⟨h1, h2⟩ := key
  have d1 := Nat.div_add_mod x k.format.signWeight
  have d2 := Nat.div_add_mod y k.format.signWeight
  have b1 : x / k.format.signWeight < 2 := Nat.div_lt_of_lt_mul (by rw [Nat.mul_comm]; exact hx)
  have b2 : y / k.format.signWeight < 2 := Nat.div_lt_of_lt_mul (by rw [Nat.mul_comm]; exact hy)
  have e : x / k.format.signWeight = y / k.format.signWeight := by
    unfold sgn at h1
    have c1 : ∀ q : Nat, q < 2 → q = 0 ∨ q = 1 := fun q h => by omega
    rcases c1 _ b1 with h3 | h3 <;> rcases c1 _ b2 with h4 | h4 <;> simp [h3, h4] at h1 ⊢
  rw [← d1, ← d2, e, h2]

theorem fv_zero {k : FloatKind} {x : Nat} (h : fv k x = 0) : x % k.format.signWeight = 0 := by
  unfold fv at h
  refine rv_inj (f := k.format) ?_
  rw [rv_zero]
  split at h <;> omega

end Go.Sm

/- Floats: sums in either order, what is not finite stays so, the greater of two. -/
namespace Go.Sm
open Go Ieee

theorem sum_comm (a b : Datum) : a.sum b = b.sum a := by
  cases a with
  | nan s t => cases b <;> rfl
  | infinity s =>
    cases b with
    | nan _ _ => rfl
    | infinity t => cases s <;> cases t <;> rfl
    | number _ _ _ => rfl
  | number s m i =>
    cases b with
    | nan _ _ => rfl
    | infinity _ => rfl
    | number t n j =>
      simp only [Datum.sum]
      rw [Int.min_comm i j, Int.add_comm (signed s m (i - min j i).toNat), Bool.and_comm s t]

theorem fop_add_comm (k : FloatKind) (a b : Nat) : fop .add k a b = fop .add k b a := by
  unfold fop
  have : floatBits .add k a b = floatBits .add k b a := by
    show k.format.add a b = k.format.add b a
    unfold Format.add
    rw [sum_comm]
  rw [this]

theorem isN_nanOf32 : isN .f32 (nanOf .f32) = true := isN_nanOf .f32
theorem fop_nan_l {op : BinOp} {k : FloatKind} {a b : Nat} (h : isN k a = true) : fop op k a b = nanOf k := by unfold fop; rw [floatBits_nan_left h]; rfl
theorem fop_nan_r {op : BinOp} {k : FloatKind} {a b : Nat} (h : isN k b = true) : fop op k a b = nanOf k := by unfold fop; rw [floatBits_nan_right h]; rfl

theorem fin_isNum (c : Nat) : fin c = isNum .f32 c := by
  rw [Bool.eq_iff_iff, fin_iff]
  unfold isNum
  constructor
  · rintro ⟨s, m, e, h⟩
    show (match Ieee.single.read c with | .number .. => true | _ => false) = true
    rw [h]
  · intro h
    split at h
    · rename_i s m i hr
      exact ⟨s, m, i, hr⟩
    · cases h

theorem isN_fin {c : Nat} (h : isN .f32 c = true) : fin c = false := by
  cases hf : fin c with
  | false => rfl
  | true => rw [fin_notNaN hf] at h; cases h

/-- Zero by what is not finite is no number. -/
theorem zero_mul_nan {p : Nat} (h : fin p = false) : fop .mul .f32 0 p = nanOf .f32 := by
  have r0 : Ieee.single.read 0 = .number false 0 (-149) := by decide
  unfold fop
  have : floatBits .mul .f32 0 p = none := by
    show Ieee.single.mul 0 p = none
    unfold Format.mul
    rw [r0]
    cases hr : Ieee.single.read p with
    | nan s t => rfl
    | infinity s => rfl
    | number s m e =>
      have := (fin_iff p).2 ⟨s, m, e, hr⟩
      rw [h] at this
      cases this
  rw [this]
  rfl

theorem horner_nan {p x : Nat} (h : isN .f32 x = true) : ∀ xs : List Nat, isN .f32 (horner p x xs) = true
  | [] => h
  | c :: xs => by
    have ih := horner_nan (p := p) h xs
    unfold horner at ih ⊢
    rw [List.foldr_cons, fop_nan_l (op := .mul) ih, fop_nan_l (op := .add) (isN_nanOf .f32)]
    exact isN_nanOf .f32

theorem horner_snoc (p x c : Nat) (xs : List Nat) : horner p x (xs ++ [c]) = horner p (fop .add .f32 (fop .mul .f32 x p) c) xs := by
  unfold horner
  rw [List.foldr_append]
  rfl

theorem horner_notFin {p : Nat} (h : fin p = false) {xs : List Nat} (hx : xs ≠ []) : fin (horner p 0 xs) = false := by
  obtain ⟨ys, c, rfl⟩ : ∃ ys c, xs = ys ++ [c] := ⟨xs.dropLast, xs.getLast hx, (List.dropLast_concat_getLast hx).symm⟩
  rw [horner_snoc]
  refine isN_fin (horner_nan ?_ ys)
  rw [zero_mul_nan h, fop_nan_l (isN_nanOf .f32)]
  exact isN_nanOf .f32

/-! ### The greater of two -/

def atLeast0 (c : Nat) : Bool := fin c && fcmp .geq .f32 c 0

theorem read_same {k : FloatKind} {x y : Nat} (h1 : sgn k x = sgn k y) (h2 : x % k.format.signWeight = y % k.format.signWeight) : k.format.read x = k.format.read y := by
  unfold sgn at h1
  unfold Format.read
  dsimp only
  rw [h1, h2]

theorem read_fv {k : FloatKind} {x y : Nat} (h : fv k x = fv k y) (h0 : fv k x ≠ 0) : k.format.read x = k.format.read y := by
  unfold fv at h h0
  cases h1 : sgn k x <;> cases h2 : sgn k y <;> simp only [h1, h2, Bool.false_eq_true, if_false, if_true] at h h0
  · exact read_same (h1.trans h2.symm) (rv_inj (f := k.format) (by omega))
  · omega
  · omega
  · exact read_same (h1.trans h2.symm) (rv_inj (f := k.format) (by omega))

theorem fop_read {op : BinOp} {k : FloatKind} {x y z : Nat} (hop : op = .add ∨ op = .sub ∨ op = .mul ∨ op = .quo) (h : k.format.read y = k.format.read z) : fop op k x y = fop op k x z := by
  unfold fop
  have : floatBits op k x y = floatBits op k x z := by
    rcases hop with rfl | rfl | rfl | rfl
    · show k.format.add x y = k.format.add x z
      unfold Format.add
      rw [h]
    · show k.format.sub x y = k.format.sub x z
      unfold Format.sub
      rw [h]
    · show k.format.mul x y = k.format.mul x z
      unfold Format.mul
      rw [h]
    · show k.format.div x y = k.format.div x z
      unfold Format.div
      rw [h]
  rw [this]

theorem cmp_gt_iff {a b : Int} : (some (compare a b) == some Ordering.gt) = decide (b < a) := by
  show (some (compareOfLessAndEq a b) == some Ordering.gt) = decide (b < a)
  unfold compareOfLessAndEq
  rcases Int.lt_trichotomy a b with h | h | h
  · have h2 : ¬ b < a := by omega
    simp [h, h2]
  · subst h; simp
  · have h2 : ¬ a < b := by omega
    have h3 : ¬ a = b := by omega
    simp [h, h2, h3]

theorem gtr_fv {k : FloatKind} {x y : Nat} (hx : isNum k x = true) (hy : isNum k y = true) : fcmp .gtr k x y = decide (fv k y < fv k x) := by
  unfold fcmp
  rw [order_fv hx hy]
  exact cmp_gt_iff

theorem word_isNum {k : FloatKind} (s : Bool) {r : Nat} (h : r < k.format.infRung) : isNum k (k.format.word s r) = true := by
  have h2 : r < k.format.signWeight := Nat.lt_trans h k.format.infRung_lt
  exact isNum_of_lt (by rw [word_mod _ _ h2]; exact h)

theorem fv_word {k : FloatKind} (s : Bool) {r : Nat} (h : r < k.format.signWeight) : fv k (k.format.word s r) = if s then -(rv k.format r : Int) else (rv k.format r : Int) := by
  unfold fv sgn
  rw [word_sign _ _ h, word_mod _ _ h]

/-- A number less a zero: the sign of the zero does not count in a comparison with what is not below zero. -/
theorem sub_zero_gtr {x a b c : Nat} (hx : fin x = true) (ha : isNum .f32 a = true) (hb : isNum .f32 b = true) (ha0 : fv .f32 a = 0) (hb0 : fv .f32 b = 0) (hc : atLeast0 c = true) :
    fcmp .gtr .f32 (fop .sub .f32 x a) c = fcmp .gtr .f32 (fop .sub .f32 x b) c := by
  rw [fin_isNum] at hx
  obtain ⟨m, e, hxr, _⟩ := isNum_read hx
  have zero : ∀ z, fv .f32 z = 0 → FloatKind.f32.format.read z = .number (sgn .f32 z) 0 FloatKind.f32.format.leastPlace := by
    intro z hz
    have := fv_zero hz
    unfold Format.read
    dsimp only
    rw [this, if_pos (binade_pos _)]
    rfl
  have key : ∀ z, fv .f32 z = 0 → fop .sub .f32 x z = FloatKind.f32.format.nearest (if signed (sgn .f32 x) m e = 0 then sgn .f32 x && !(sgn .f32 z) else decide (signed (sgn .f32 x) m e < 0)) (signed (sgn .f32 x) m e).natAbs FloatKind.f32.format.leastPlace := by
    intro z hz
    have h1 : floatBits .sub .f32 x z = some (FloatKind.f32.format.nearest (if signed (sgn .f32 x) m e = 0 then sgn .f32 x && !(sgn .f32 z) else decide (signed (sgn .f32 x) m e < 0)) (signed (sgn .f32 x) m e).natAbs FloatKind.f32.format.leastPlace) := by
      show FloatKind.f32.format.sub x z = _
      unfold Format.sub
      rw [hxr, zero z hz]
      simp only [Datum.opposite, Datum.sum]
      have h2 : min (FloatKind.f32.format.leastPlace + (e : Int)) FloatKind.f32.format.leastPlace = FloatKind.f32.format.leastPlace := by omega
      rw [h2]
      have h3 : (FloatKind.f32.format.leastPlace + (e : Int) - FloatKind.f32.format.leastPlace).toNat = e := by omega
      have h4 : signed (!sgn .f32 z) 0 (FloatKind.f32.format.leastPlace - FloatKind.f32.format.leastPlace).toNat = 0 := by unfold signed; cases sgn .f32 z <;> simp
      rw [h3, h4, Int.add_zero]
      rfl
    unfold fop
    rw [h1]
    rfl
  rw [key a ha0, key b hb0]
  by_cases h0 : signed (sgn .f32 x) m e = 0
  · rw [if_pos h0, if_pos h0, h0]
    have hz : ∀ s : Bool, fcmp .gtr .f32 (FloatKind.f32.format.nearest s (Int.natAbs 0) FloatKind.f32.format.leastPlace) c = false := by
      intro s
      unfold atLeast0 at hc
      rw [Bool.and_eq_true] at hc
      have hcn : isNum .f32 c = true := by rw [← fin_isNum]; exact hc.1
      have e1 : FloatKind.f32.format.nearest s (Int.natAbs 0) FloatKind.f32.format.leastPlace = FloatKind.f32.format.word s 0 := rfl
      have h5 : (0 : Nat) < FloatKind.f32.format.infRung := by decide
      rw [e1, gtr_fv (word_isNum s h5) hcn, fv_word s (Nat.two_pow_pos _), rv_zero]
      have h6 := hc.2
      have h7 : isNum .f32 0 = true := by decide
      unfold fcmp at h6
      rw [order_fv hcn h7] at h6
      have h8 : fv .f32 0 = 0 := by decide
      rw [h8] at h6
      dsimp only at h6
      rw [cmp_geq] at h6
      have h9 := of_decide_eq_true h6
      cases s <;> simp <;> omega
    rw [hz, hz]
  · rw [if_neg h0, if_neg h0]

/-- The greater of two numbers, by the builtin or by a comparison: alike in what is behind it. -/
theorem sub_max {x a b c : Nat} (hx : fin x = true) (ha : fin a = true) (hb : fin b = true) (hc : atLeast0 c = true) :
    fcmp .gtr .f32 (fop .sub .f32 x (fmax .f32 a b)) c = fcmp .gtr .f32 (fop .sub .f32 x (bif fcmp .gtr .f32 b a then b else a)) c := by
  have ha' := ha
  have hb' := hb
  rw [fin_isNum] at ha' hb'
  rw [gtr_fv hb' ha']
  have ho := order_fv ha' hb'
  have key : fmax .f32 a b = match some (compare (fv .f32 a) (fv .f32 b)) with
      | none => nanOf .f32
      | some .lt => b
      | some .gt => a
      | some .eq => bif (FloatKind.f32.decode a).neg then b else a := by
    unfold fmax
    rw [ho]
    rfl
  rw [key]
  rcases Int.lt_trichotomy (fv .f32 a) (fv .f32 b) with h | h | h
  · have h1 : compare (fv .f32 a) (fv .f32 b) = .lt := by
      show compareOfLessAndEq _ _ = _
      unfold compareOfLessAndEq
      simp [h]
    rw [h1]
    simp [h]
  · have h1 : compare (fv .f32 a) (fv .f32 b) = .eq := by
      show compareOfLessAndEq _ _ = _
      unfold compareOfLessAndEq
      simp [h]
    rw [h1, h]
    simp only [Int.lt_irrefl, decide_false, cond_false]
    cases (FloatKind.f32.decode a).neg with
    | false => rfl
    | true =>
      simp only [cond_true]
      by_cases h0 : fv .f32 a = 0
      · exact sub_zero_gtr hx hb' ha' (by omega) h0 hc
      · rw [fop_read (.inr (.inl rfl)) (read_fv h h0)]
  · have h1 : compare (fv .f32 a) (fv .f32 b) = .gt := by
      show compareOfLessAndEq _ _ = _
      unfold compareOfLessAndEq
      have h2 : ¬ fv .f32 a < fv .f32 b := by omega
      have h3 : ¬ fv .f32 a = fv .f32 b := by omega
      simp [h2, h3]
    have h2 : ¬ fv .f32 a < fv .f32 b := by omega
    rw [h1]
    simp [h2]

end Go.Sm

