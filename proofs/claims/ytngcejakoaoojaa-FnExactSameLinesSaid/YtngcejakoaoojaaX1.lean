/- Functions of the model's own, without a body: bits of floats, roots, whole parts. -/
import Derived.Test.YtngcejakoaoojaaC1
namespace Go.Sm
open Go Go.RowKit

/-- A float made whole; the root of a float. -/
def fround (way : Ieee.Toward) (c : Nat) : Nat := bif isN .f64 c then nanOf .f64 else FloatKind.f64.encode ((FloatKind.f64.decode c).integral way)
def fsqrt (c : Nat) : Nat := (FloatKind.f64.format.sqrt c).getD (nanOf .f64)

section
variable {P : Program} {f : Nat} {fn : Func}

theorem one_arg {w : World} {Pr : Nat → Prop} {x : FV} {cargs : List Value} (h : AllR (FVR w Pr [] []) [x] cargs) : ∃ v, cargs = [v] ∧ FVR w Pr [] [] x v := by
  match cargs, h with
  | [v], h => exact ⟨v, rfl, h.1⟩

theorem cn_same {k : FloatKind} {b c : Nat} (h : cn k b = c) (hn : isN k c = false) : b = c := by
  subst h
  rw [isN_cn] at hn
  exact (cn_num hn).symm

theorem x_f32bits (h1 : P.funcs[f]? = some fn) (h2 : (fn.name == "runtime.NumGoroutine") = false) (h3 : fn.body.isNone = true) (h4 : Extern.findNext fn = none) (h5 : Extern.find fn = some Extern.MathFloatBits.float32bits) {c : Nat} (hn : isN .f32 c = false) :
    CallOK P f [.el (.sc (.fl .f32 c))] [.el (.sc (.int .u32 c))] := by
  refine .inr ⟨fn, _, _, h1, h2, h3, h4, h5, rfl, fun w cargs h => ?_⟩
  obtain ⟨v, rfl, b, rfl, hb⟩ := one_arg h
  rw [cn_same hb hn]
  exact ⟨_, w, rfl, rfl, Same.refl w⟩

theorem x_f64bits (h1 : P.funcs[f]? = some fn) (h2 : (fn.name == "runtime.NumGoroutine") = false) (h3 : fn.body.isNone = true) (h4 : Extern.findNext fn = none) (h5 : Extern.find fn = some Extern.MathFloatBits.float64bits) {c : Nat} (hn : isN .f64 c = false) :
    CallOK P f [.el (.sc (.fl .f64 c))] [.el (.sc (.int .u64 c))] := by
  refine .inr ⟨fn, _, _, h1, h2, h3, h4, h5, rfl, fun w cargs h => ?_⟩
  obtain ⟨v, rfl, b, rfl, hb⟩ := one_arg h
  rw [cn_same hb hn]
  exact ⟨_, w, rfl, rfl, Same.refl w⟩

theorem x_f32from (h1 : P.funcs[f]? = some fn) (h2 : (fn.name == "runtime.NumGoroutine") = false) (h3 : fn.body.isNone = true) (h4 : Extern.findNext fn = none) (h5 : Extern.find fn = some Extern.MathFloatBits.float32frombits) {n : Int} :
    CallOK P f [.el (.sc (.int .u32 n))] [.el (.sc (.fl .f32 (cn .f32 n.toNat)))] := by
  refine .inr ⟨fn, _, _, h1, h2, h3, h4, h5, rfl, fun w cargs h => ?_⟩
  obtain ⟨v, rfl, hv⟩ := one_arg h
  have hv : v = .int .u32 n := hv
  subst hv
  exact ⟨_, w, rfl, ⟨_, rfl, rfl⟩, Same.refl w⟩

theorem x_f64from (h1 : P.funcs[f]? = some fn) (h2 : (fn.name == "runtime.NumGoroutine") = false) (h3 : fn.body.isNone = true) (h4 : Extern.findNext fn = none) (h5 : Extern.find fn = some Extern.MathFloatBits.float64frombits) {n : Int} :
    CallOK P f [.el (.sc (.int .u64 n))] [.el (.sc (.fl .f64 (cn .f64 n.toNat)))] := by
  refine .inr ⟨fn, _, _, h1, h2, h3, h4, h5, rfl, fun w cargs h => ?_⟩
  obtain ⟨v, rfl, hv⟩ := one_arg h
  have hv : v = .int .u64 n := hv
  subst hv
  exact ⟨_, w, rfl, ⟨_, rfl, rfl⟩, Same.refl w⟩

theorem integral_notNaN {way : Ieee.Toward} {d : Ieee.Datum} (h : d.isNaN = false) : (d.integral way).isNaN = false := by
  cases d with
  | nan s t => simp [Ieee.Datum.isNaN] at h
  | infinity s => rfl
  | number s m e => rfl

theorem quietNaN (s : Bool) (t : Nat) : isN .f64 (FloatKind.f64.encode (.nan s (FloatKind.f64.format.quiet t))) = true := by
  have h0 : (t ||| 2 ^ 51) % 2 ^ 52 ≠ 0 := by
    intro h
    have h1 : ((t ||| 2 ^ 51) % 2 ^ 52).testBit 51 = true := by
      rw [Nat.testBit_mod_two_pow, Nat.testBit_or, Nat.testBit_two_pow]
      simp
    rw [h] at h1
    simp at h1
  have hlt := Nat.mod_lt (t ||| 2 ^ 51) (show 0 < 2 ^ 52 by decide)
  have e : FloatKind.f64.encode (.nan s (FloatKind.f64.format.quiet t)) = Ieee.double.word s (Ieee.double.infRung + (t ||| 2 ^ 51) % 2 ^ 52) := rfl
  rw [e]
  generalize (t ||| 2 ^ 51) % 2 ^ 52 = q at h0 hlt
  have hs : Ieee.double.signWeight = 9223372036854775808 := by decide
  have hb : Ieee.double.binade = 4503599627370496 := by decide
  have hi : Ieee.double.infRung = 9218868437227405312 := by decide
  have hm : Ieee.double.word s (Ieee.double.infRung + q) % Ieee.double.signWeight = Ieee.double.infRung + q := by
    unfold Ieee.Format.word
    rw [hs, hi]
    cases s
    · simp; omega
    · simp; omega
  show (Ieee.double.read (Ieee.double.word s (Ieee.double.infRung + q))).isNaN = true
  unfold Ieee.Format.read
  dsimp only
  rw [hm, if_neg (by omega), if_neg (by omega), if_neg (by omega)]
  rfl

theorem x_round {name : String} {way : Ieee.Toward} (h1 : P.funcs[f]? = some fn) (h2 : (fn.name == "runtime.NumGoroutine") = false) (h3 : fn.body.isNone = true) (h4 : Extern.findNext fn = none) (h5 : Extern.find fn = some (Extern.MathFloor.toIntegral name way)) {c : Nat} :
    CallOK P f [.el (.sc (.fl .f64 c))] [.el (.sc (.fl .f64 (fround way c)))] := by
  refine .inr ⟨fn, _, _, h1, h2, h3, h4, h5, rfl, fun w cargs h => ?_⟩
  obtain ⟨v, rfl, b, rfl, hb⟩ := one_arg h
  have hq : isN .f64 b = isN .f64 c := by rw [← hb, isN_cn]
  have he : Extern.MathFloor.toIntegral name way [Value.float .f64 b].toArray = (match FloatKind.f64.decode b with
      | .nan s t => if FloatKind.f64.format.quiet t = t then pure (.float .f64 b) else (do
          let kept ← choose (.extern "math.Floor,Ceil,Trunc,RoundToEven.signallingNaN kept" 2)
          pure (.float .f64 (if kept == 1 then b else FloatKind.f64.encode (.nan s (FloatKind.f64.format.quiet t)))))
      | d => pure (.float .f64 (FloatKind.f64.encode (d.integral way)))) := rfl
  rw [he]
  cases hd : FloatKind.f64.decode b with
  | nan s t =>
    have hn : isN .f64 b = true := by unfold isN; rw [hd]; rfl
    have hfr : fround way c = nanOf .f64 := by unfold fround; rw [← hq, hn]; rfl
    rw [hfr]
    by_cases ht : FloatKind.f64.format.quiet t = t
    · refine ⟨.float .f64 b, w, ?_, ⟨b, rfl, cn_nan hn⟩, Same.refl w⟩
      simp [ht]
    · have hq2 : isN .f64 (FloatKind.f64.encode (.nan s (FloatKind.f64.format.quiet t))) = true := quietNaN s t
      refine ⟨.float .f64 (if ((Question.extern "math.Floor,Ceil,Trunc,RoundToEven.signallingNaN kept" 2).cut (w.tape w.drawn (Question.extern "math.Floor,Ceil,Trunc,RoundToEven.signallingNaN kept" 2)) == 1) = true then b else FloatKind.f64.encode (.nan s (FloatKind.f64.format.quiet t))), w.drew, ?_, ⟨_, rfl, ?_⟩, Same.drew w⟩
      · simp only [if_neg ht]
        rfl
      · split
        · exact cn_nan hn
        · exact cn_nan hq2
  | infinity s =>
    have hn : isN .f64 b = false := by unfold isN; rw [hd]; rfl
    have hbc : b = c := by rw [← hb, cn_num hn]
    subst hbc
    refine ⟨_, w, rfl, ⟨_, rfl, ?_⟩, Same.refl w⟩
    unfold fround
    rw [hn, hd]
    exact cn_num (write_notNaN _ _ rfl)
  | number s m e =>
    have hn : isN .f64 b = false := by unfold isN; rw [hd]; rfl
    have hbc : b = c := by rw [← hb, cn_num hn]
    subst hbc
    refine ⟨_, w, rfl, ⟨_, rfl, ?_⟩, Same.refl w⟩
    unfold fround
    rw [hn, hd]
    exact cn_num (write_notNaN _ _ rfl)

theorem root_notNaN {n : Nat} {a d : Ieee.Datum} (h : a.root n = some d) : d.isNaN = false := by
  cases a with
  | nan s t => cases h
  | infinity s =>
    cases s with
    | true => cases h
    | false => cases h; rfl
  | number s m e =>
    by_cases hm : m = 0
    · have e1 : (Ieee.Datum.number s m e).root n = some (.number s m e) := if_pos hm
      rw [e1] at h
      cases h
      rfl
    · cases s with
      | true =>
        have e1 : (Ieee.Datum.number true m e).root n = none := (if_neg hm).trans (if_pos rfl)
        rw [e1] at h
        cases h
      | false =>
        have e1 : ∃ q z, (Ieee.Datum.number false m e).root n = some (.number false q z) := ⟨_, _, (if_neg hm).trans (if_neg (by decide))⟩
        obtain ⟨q, z, e1⟩ := e1
        rw [e1] at h
        cases h
        rfl

theorem x_sqrt (h1 : P.funcs[f]? = some fn) (h2 : (fn.name == "runtime.NumGoroutine") = false) (h3 : fn.body.isNone = true) (h4 : Extern.findNext fn = none) (h5 : Extern.find fn = some Extern.MathSqrt.sqrt) {c : Nat} :
    CallOK P f [.el (.sc (.fl .f64 c))] [.el (.sc (.fl .f64 (fsqrt c)))] := by
  refine .inr ⟨fn, _, _, h1, h2, h3, h4, h5, rfl, fun w cargs h => ?_⟩
  obtain ⟨v, rfl, b, rfl, hb⟩ := one_arg h
  have hs : FloatKind.f64.format.sqrt b = FloatKind.f64.format.sqrt c := by
    cases hn : isN .f64 b with
    | false => rw [← hb, cn_num hn]
    | true =>
      have hc : isN .f64 c = true := by rw [← hb, isN_cn, hn]
      have key : ∀ x, isN .f64 x = true → FloatKind.f64.format.sqrt x = none := by
        intro x hx
        unfold isN FloatKind.decode at hx
        unfold Ieee.Format.sqrt
        cases hr : FloatKind.f64.format.read x with
        | nan s t => rfl
        | infinity s => rw [hr] at hx; cases hx
        | number s m e => rw [hr] at hx; cases hx
      rw [key b hn, key c hc]
  have he : Extern.MathSqrt.sqrt [Value.float .f64 b].toArray = (match FloatKind.f64.format.sqrt b with
      | some r => pure (.float .f64 r)
      | none => do pure (.float .f64 (← choose (.nanBits .f64 b b)))) := rfl
  rw [he, hs]
  unfold fsqrt
  cases hr : FloatKind.f64.format.sqrt c with
  | some r =>
    refine ⟨.float .f64 r, w, rfl, ⟨r, rfl, ?_⟩, Same.refl w⟩
    exact cn_num (map_write_notNaN (fun d hd => root_notNaN hd) hr)
  | none =>
    refine ⟨.float .f64 _, w.drew, rfl, ⟨_, rfl, ?_⟩, Same.drew w⟩
    exact cn_nan (isN_chosen .f64 _ _ (.inl ⟨b, b, rfl⟩))

theorem cok_call {args : List FV} {k : List RV → R} {out : Out} (h : ∃ rs, Real P f ∧ COK P f args rs ∧ k rs = some out) : ∃ rs, CallOK P f args rs ∧ k rs = some out := by
  obtain ⟨rs, h1, h2, h3⟩ := h
  exact ⟨rs, .inl ⟨h1, h2⟩, h3⟩
end

end Go.Sm
