/- What the functions hand back: level 8. -/
import Derived.Test.YtpckpfbjhnllbaaD8
namespace Go.Sm.Ytpckpfbjhnllbaa
open Go Go.Sm Go.RowKit Go.Proofs

/-! spec.FitLine -/
def a15 : Ann := ann [(6, [1, 2, 3, 4, 5, 10, 13], [5, 10, 13]), (16, [1, 2, 3, 4, 5, 10, 13, 16, 17, 18, 107, 108], [1, 2, 3, 4, 5, 10, 13, 18]), (20, [1, 2, 3, 4, 5, 10, 13, 16, 17, 18, 19, 20, 107, 108, 113, 114], [1, 2, 3, 4, 5, 10, 13, 16, 17, 18, 20, 107, 108]), (29, [1, 2, 3, 4, 5, 10, 13, 18, 23, 145, 146], [1, 2, 3, 4, 5, 10, 13, 18, 23]), (35, [1, 2, 3, 4, 5, 10, 13, 25, 167, 168], [1, 2, 3, 4, 5, 10, 13, 25])] [10, 11, 12] 0
def lp15 : St → (Ex → St → R) → R := fun s k => match s with
  | ⟨[(1, .fv (.vw (some 1) ⟨.f32, ys⟩)), (2, .fv (.el (.sc (.fl .f32 b)))), (3, .fv (.el (.sc (.fl .f32 d)))), (4, .fv (.el (.sc (.int .i64 cc)))), (5, .fv (.pt ⟨.r 0, 4, 0, 0⟩)), (10, .fv (.pt ⟨.r 1, 4, 0, 0⟩)), (13, .fv (.el (.sc (.fl .f32 rr))))], [some ⟨38, ⟨.line, ln⟩⟩, some ⟨38, ⟨.line, rz⟩⟩]⟩ => (match ((decide (0 ≤ cc ∧ cc ≤ 16) && (Nat.ble 1 (ln : List LineV).length && (Nat.ble 1 (rz : List LineV).length && Nat.ble ys.length 128))) : Bool) with | true => (match fitRun (stepS ys b d) (cc.toNat) ((ln : List LineV).getD 0 noLine) rr with | some s => k (.exit 0) ⟨[(5, .fv (.pt ⟨.r 0, 4, 0, 0⟩)), (10, .fv (.pt ⟨.r 1, 4, 0, 0⟩)), (13, .fv (.el (.sc (.fl .f32 s.2))))], [some ⟨38, ⟨.line, (ln : List LineV).set 0 s.1⟩⟩, some ⟨38, ⟨.line, rz⟩⟩]⟩ | none => k .ret ⟨[(10, .fv (.pt ⟨.r 0, 4, 0, 0⟩)), (11, .fv (.el (.sc (.fl .f32 0)))), (12, .fv (.el (.sc (.bo false))))], [some ⟨38, ⟨.line, (rz : List LineV).set 0 (⟨0, 0, 0, 0⟩ : LineV)⟩⟩]⟩) | false => none)
  | _ => none
def lp15_1 : St → (Ex → St → R) → R := fun s k => match s with
  | ⟨[(1, .fv (.vw (some 1) ⟨.f32, ys⟩)), (2, .fv (.el (.sc (.fl .f32 b)))), (3, .fv (.el (.sc (.fl .f32 d)))), (4, .fv (.el (.sc (.int .i64 cc)))), (5, .fv (.pt ⟨.r 0, 4, 0, 0⟩)), (10, .fv (.pt ⟨.r 1, 4, 0, 0⟩)), (13, .fv (.el (.sc (.fl .f32 rr)))), (16, .fv (.own 2)), (17, .fv (.own 3)), (18, .fv (.own 4)), (107, .fv (.el (.sc (.int .i64 n)))), (108, .fv (.el (.sc (.int .i64 i))))], [some ⟨38, ⟨.line, ln⟩⟩, some ⟨38, ⟨.line, rz⟩⟩, some ⟨24, ⟨.f32, ss⟩⟩, some ⟨38, ⟨.line, us⟩⟩, some ⟨23, ⟨.lf, gs⟩⟩]⟩ => (match ((decide (n = ((us : List LineV).length : Int)) && (decide (i = 0) && (Nat.ble (us : List LineV).length big && (Nat.ble (us : List LineV).length (ss : List Nat).length && (Nat.ble 1 (ln : List LineV).length && (Nat.ble ys.length 128 && Nat.ble ((gs : List ((List Nat))).length + (us : List LineV).length) big)))))) : Bool) with | true => k (.exit 2) ⟨[(1, .fv (.vw (some 1) ⟨.f32, ys⟩)), (2, .fv (.el (.sc (.fl .f32 b)))), (3, .fv (.el (.sc (.fl .f32 d)))), (4, .fv (.el (.sc (.int .i64 cc)))), (5, .fv (.pt ⟨.r 0, 4, 0, 0⟩)), (10, .fv (.pt ⟨.r 1, 4, 0, 0⟩)), (13, .fv (.el (.sc (.fl .f32 rr)))), (18, .fv (.own 2))], [some ⟨38, ⟨.line, (ln : List LineV)⟩⟩, some ⟨38, ⟨.line, (rz : List LineV)⟩⟩, some ⟨23, ⟨.lf, rep (rowsF (us : List LineV) (ss : List Nat) ((ln : List LineV).getD 0 noLine) b d ys.length) ((us : List LineV).length) 0 ((gs : List ((List Nat))) : (List (List Nat)))⟩⟩]⟩ | false => none)
  | _ => none
def lp15_2 : St → (Ex → St → R) → R := fun s k => match s with
  | ⟨[(1, .fv (.vw (some 1) ⟨.f32, ys⟩)), (2, .fv (.el (.sc (.fl .f32 b)))), (3, .fv (.el (.sc (.fl .f32 d)))), (4, .fv (.el (.sc (.int .i64 cc)))), (5, .fv (.pt ⟨.r 0, 4, 0, 0⟩)), (10, .fv (.pt ⟨.r 1, 4, 0, 0⟩)), (13, .fv (.el (.sc (.fl .f32 rr)))), (16, .fv (.own 2)), (17, .fv (.own 3)), (18, .fv (.own 4)), (19, .fv (.el (.sc (.int .i64 z)))), (20, .fv (.own 5)), (107, .fv (.el (.sc (.int .i64 n)))), (108, .fv (.el (.sc (.int .i64 i)))), (113, .fv (.el (.sc (.int .i64 n2)))), (114, .fv (.el (.sc (.int .i64 q))))], [some ⟨38, ⟨.line, ln⟩⟩, some ⟨38, ⟨.line, rz⟩⟩, some ⟨24, ⟨.f32, ss⟩⟩, some ⟨38, ⟨.line, us⟩⟩, some ⟨23, ⟨.lf, gs⟩⟩, some ⟨24, ⟨.f32, rs⟩⟩]⟩ => (match ((decide (n2 = (ys.length : Int)) && (decide (q = 0) && (Nat.ble ys.length 128 && (decide (0 ≤ z ∧ z < ((us : List LineV).length : Int)) && (Nat.ble (us : List LineV).length (ss : List Nat).length && (Nat.ble 1 (ln : List LineV).length && Nat.ble ((rs : List Nat).length + ys.length) big)))))) : Bool) with | true => k (.exit 4) ⟨[(1, .fv (.vw (some 1) ⟨.f32, ys⟩)), (2, .fv (.el (.sc (.fl .f32 b)))), (3, .fv (.el (.sc (.fl .f32 d)))), (4, .fv (.el (.sc (.int .i64 cc)))), (5, .fv (.pt ⟨.r 0, 4, 0, 0⟩)), (10, .fv (.pt ⟨.r 1, 4, 0, 0⟩)), (13, .fv (.el (.sc (.fl .f32 rr)))), (16, .fv (.own 2)), (17, .fv (.own 3)), (18, .fv (.own 4)), (20, .fv (.own 5)), (107, .fv (.el (.sc (.int .i64 n)))), (108, .fv (.el (.sc (.int .i64 i))))], [some ⟨38, ⟨.line, (ln : List LineV)⟩⟩, some ⟨38, ⟨.line, (rz : List LineV)⟩⟩, some ⟨24, ⟨.f32, (ss : List Nat)⟩⟩, some ⟨38, ⟨.line, (us : List LineV)⟩⟩, some ⟨23, ⟨.lf, (gs : List ((List Nat)))⟩⟩, some ⟨24, ⟨.f32, rep (rowF ((us : List LineV).getD z.toNat noLine) ((ln : List LineV).getD 0 noLine) ((ss : List Nat).getD z.toNat 0) b d) (ys.length) 0 ((rs : List Nat) : (List Nat))⟩⟩]⟩ | false => none)
  | _ => none
def lp15_3 : St → (Ex → St → R) → R := fun s k => match s with
  | ⟨[(1, .fv (.vw (some 1) ⟨.f32, ys⟩)), (2, .fv (.el (.sc (.fl .f32 b)))), (3, .fv (.el (.sc (.fl .f32 d)))), (4, .fv (.el (.sc (.int .i64 cc)))), (5, .fv (.pt ⟨.r 0, 4, 0, 0⟩)), (10, .fv (.pt ⟨.r 1, 4, 0, 0⟩)), (13, .fv (.el (.sc (.fl .f32 rr)))), (18, .fv (.own 2)), (23, .fv (.own 3)), (145, .fv (.el (.sc (.int .i64 n)))), (146, .fv (.el (.sc (.int .i64 i))))], [some ⟨38, ⟨.line, ln⟩⟩, some ⟨38, ⟨.line, rz⟩⟩, some ⟨23, ⟨.lf, gs⟩⟩, some ⟨24, ⟨.f32, rs⟩⟩]⟩ => (match ((decide (n = (ys.length : Int)) && (decide (i = 0) && (Nat.ble ys.length 128 && (Nat.ble 1 (ln : List LineV).length && Nat.ble ((rs : List Nat).length + ys.length) big)))) : Bool) with | true => k (.exit 6) ⟨[(1, .fv (.vw (some 1) ⟨.f32, ys⟩)), (2, .fv (.el (.sc (.fl .f32 b)))), (3, .fv (.el (.sc (.fl .f32 d)))), (4, .fv (.el (.sc (.int .i64 cc)))), (5, .fv (.pt ⟨.r 0, 4, 0, 0⟩)), (10, .fv (.pt ⟨.r 1, 4, 0, 0⟩)), (13, .fv (.el (.sc (.fl .f32 rr)))), (18, .fv (.own 2)), (23, .fv (.own 3))], [some ⟨38, ⟨.line, (ln : List LineV)⟩⟩, some ⟨38, ⟨.line, (rz : List LineV)⟩⟩, some ⟨23, ⟨.lf, (gs : List ((List Nat)))⟩⟩, some ⟨24, ⟨.f32, rep (restF ys ((ln : List LineV).getD 0 noLine) b d) (ys.length) 0 ((rs : List Nat) : (List Nat))⟩⟩]⟩ | false => none)
  | _ => none
def lp15_4 : St → (Ex → St → R) → R := fun s k => match s with
  | ⟨[(1, .fv (.vw (some 1) ⟨.f32, ys⟩)), (2, .fv (.el (.sc (.fl .f32 b)))), (3, .fv (.el (.sc (.fl .f32 d)))), (4, .fv (.el (.sc (.int .i64 cc)))), (5, .fv (.pt ⟨.r 0, 4, 0, 0⟩)), (10, .fv (.pt ⟨.r 1, 4, 0, 0⟩)), (13, .fv (.el (.sc (.fl .f32 rr)))), (25, .fv (.own 2)), (167, .fv (.el (.sc (.int .i64 n)))), (168, .fv (.el (.sc (.int .i64 i))))], [some ⟨38, ⟨.line, ln⟩⟩, some ⟨38, ⟨.line, rz⟩⟩, some ⟨23, ⟨.lf, X⟩⟩]⟩ => (match (sq3 ((X : List (List Nat))) && (decide (n = 3) && decide (i = 0)) : Bool) with | true => k (.exit 8) ⟨[(1, .fv (.vw (some 1) ⟨.f32, ys⟩)), (2, .fv (.el (.sc (.fl .f32 b)))), (3, .fv (.el (.sc (.fl .f32 d)))), (4, .fv (.el (.sc (.int .i64 cc)))), (5, .fv (.pt ⟨.r 0, 4, 0, 0⟩)), (10, .fv (.pt ⟨.r 1, 4, 0, 0⟩)), (13, .fv (.el (.sc (.fl .f32 rr)))), (25, .fv (.own 2))], [some ⟨38, ⟨.line, ln⟩⟩, some ⟨38, ⟨.line, rz⟩⟩, some ⟨23, ⟨.lf, diagX 0 (X : List (List Nat))⟩⟩, none, none, none]⟩ | false => none)
  | _ => none
def l15 : Loops := fun key s k => bif Nat.beq key 6 then lp15 s k else bif Nat.beq key 16 then lp15_1 s k else bif Nat.beq key 20 then lp15_2 s k else bif Nat.beq key 29 then lp15_3 s k else bif Nat.beq key 35 then lp15_4 s k else none
theorem st15 (ys : List Nat) (b : Nat) (d : Nat) (cc : Int) (rr : Nat) (ln : List LineV) (rz : List LineV) (m : Nat) (k : Ex → St → R) : iterK a15 [1, 2, 3, 4, 5, 10, 13] [5, 10, 13] (codeK T8 a15 l15 Try.f15.ntmps (loopAt Try.f15 0)) (m + 1) ⟨[(1, .fv (.vw (some 1) ⟨.f32, ys⟩)), (2, .fv (.el (.sc (.fl .f32 b)))), (3, .fv (.el (.sc (.fl .f32 d)))), (4, .fv (.el (.sc (.int .i64 cc)))), (5, .fv (.pt ⟨.r 0, 4, 0, 0⟩)), (10, .fv (.pt ⟨.r 1, 4, 0, 0⟩)), (13, .fv (.el (.sc (.fl .f32 rr))))], [some ⟨38, ⟨.line, ln⟩⟩, some ⟨38, ⟨.line, rz⟩⟩]⟩ k = (match (decide ((cc : Int) > 0) : Bool) with | true => (match (ln : List LineV)[0]? with | some x1 => (match (ln : List LineV)[0]? with | some x2 => (match (ln : List LineV)[0]? with | some x3 => (match (ln : List LineV)[0]? with | some x4 => (match (ln : List LineV)[0]? with | some x5 => (match (ln : List LineV)[0]? with | some x6 => (match (ln : List LineV)[0]? with | some x7 => (match ((decide (((([(⟨fop .add .f32 x5.p (fop .mul .f32 x1.w 1015021568), x2.h, x2.w, x2.k⟩ : LineV), (⟨x3.p, fop .add .f32 x6.h 1015021568, x3.w, x3.k⟩ : LineV), (⟨x4.p, x4.h, fop .mul .f32 x7.w 1065484288, x4.k⟩ : LineV)] : List LineV).length : Int)) = (([(⟨fop .add .f32 x5.p (fop .mul .f32 x1.w 1015021568), x2.h, x2.w, x2.k⟩ : LineV), (⟨x3.p, fop .add .f32 x6.h 1015021568, x3.w, x3.k⟩ : LineV), (⟨x4.p, x4.h, fop .mul .f32 x7.w 1065484288, x4.k⟩ : LineV)] : List LineV).length : Int)) && (decide (0 = 0) && (Nat.ble ([(⟨fop .add .f32 x5.p (fop .mul .f32 x1.w 1015021568), x2.h, x2.w, x2.k⟩ : LineV), (⟨x3.p, fop .add .f32 x6.h 1015021568, x3.w, x3.k⟩ : LineV), (⟨x4.p, x4.h, fop .mul .f32 x7.w 1065484288, x4.k⟩ : LineV)] : List LineV).length big && (Nat.ble ([(⟨fop .add .f32 x5.p (fop .mul .f32 x1.w 1015021568), x2.h, x2.w, x2.k⟩ : LineV), (⟨x3.p, fop .add .f32 x6.h 1015021568, x3.w, x3.k⟩ : LineV), (⟨x4.p, x4.h, fop .mul .f32 x7.w 1065484288, x4.k⟩ : LineV)] : List LineV).length ([fop .mul .f32 x1.w 1015021568, 1015021568, fop .mul .f32 x1.w 1015021568] : List Nat).length && (Nat.ble 1 (ln : List LineV).length && (Nat.ble ys.length 128 && Nat.ble ((([] : List (List Nat)) : List ((List Nat))).length + ([(⟨fop .add .f32 x5.p (fop .mul .f32 x1.w 1015021568), x2.h, x2.w, x2.k⟩ : LineV), (⟨x3.p, fop .add .f32 x6.h 1015021568, x3.w, x3.k⟩ : LineV), (⟨x4.p, x4.h, fop .mul .f32 x7.w 1065484288, x4.k⟩ : LineV)] : List LineV).length) big)))))) : Bool) with | true => (match ((decide (((ys.length : Int)) = (ys.length : Int)) && (decide (0 = 0) && (Nat.ble ys.length 128 && (Nat.ble 1 ((ln : List LineV) : List LineV).length && Nat.ble (([] : List Nat).length + ys.length) big)))) : Bool) with | true => (match (rowsFit ((rep (rowsF ([(⟨fop .add .f32 x5.p (fop .mul .f32 x1.w 1015021568), x2.h, x2.w, x2.k⟩ : LineV), (⟨x3.p, fop .add .f32 x6.h 1015021568, x3.w, x3.k⟩ : LineV), (⟨x4.p, x4.h, fop .mul .f32 x7.w 1065484288, x4.k⟩ : LineV)] : List LineV) ([fop .mul .f32 x1.w 1015021568, 1015021568, fop .mul .f32 x1.w 1015021568] : List Nat) ((ln : List LineV).getD 0 noLine) b d ys.length) (([(⟨fop .add .f32 x5.p (fop .mul .f32 x1.w 1015021568), x2.h, x2.w, x2.k⟩ : LineV), (⟨x3.p, fop .add .f32 x6.h 1015021568, x3.w, x3.k⟩ : LineV), (⟨x4.p, x4.h, fop .mul .f32 x7.w 1065484288, x4.k⟩ : LineV)] : List LineV).length) 0 ((([] : List (List Nat)) : List ((List Nat))) : (List (List Nat))) : List ((List Nat)))) (rep (restF ys (((ln : List LineV) : List LineV).getD 0 noLine) b d) (ys.length) 0 (([] : List Nat) : (List Nat))) : Bool) with | true => (match (sq3 ((gram ((rep (rowsF ([(⟨fop .add .f32 x5.p (fop .mul .f32 x1.w 1015021568), x2.h, x2.w, x2.k⟩ : LineV), (⟨x3.p, fop .add .f32 x6.h 1015021568, x3.w, x3.k⟩ : LineV), (⟨x4.p, x4.h, fop .mul .f32 x7.w 1065484288, x4.k⟩ : LineV)] : List LineV) ([fop .mul .f32 x1.w 1015021568, 1015021568, fop .mul .f32 x1.w 1015021568] : List Nat) ((ln : List LineV).getD 0 noLine) b d ys.length) (([(⟨fop .add .f32 x5.p (fop .mul .f32 x1.w 1015021568), x2.h, x2.w, x2.k⟩ : LineV), (⟨x3.p, fop .add .f32 x6.h 1015021568, x3.w, x3.k⟩ : LineV), (⟨x4.p, x4.h, fop .mul .f32 x7.w 1065484288, x4.k⟩ : LineV)] : List LineV).length) 0 ((([] : List (List Nat)) : List ((List Nat))) : (List (List Nat))) : List ((List Nat)))) (rep (restF ys (((ln : List LineV) : List LineV).getD 0 noLine) b d) (ys.length) 0 (([] : List Nat) : (List Nat))) : List (List Nat))) && (decide (((gram ((rep (rowsF ([(⟨fop .add .f32 x5.p (fop .mul .f32 x1.w 1015021568), x2.h, x2.w, x2.k⟩ : LineV), (⟨x3.p, fop .add .f32 x6.h 1015021568, x3.w, x3.k⟩ : LineV), (⟨x4.p, x4.h, fop .mul .f32 x7.w 1065484288, x4.k⟩ : LineV)] : List LineV) ([fop .mul .f32 x1.w 1015021568, 1015021568, fop .mul .f32 x1.w 1015021568] : List Nat) ((ln : List LineV).getD 0 noLine) b d ys.length) (([(⟨fop .add .f32 x5.p (fop .mul .f32 x1.w 1015021568), x2.h, x2.w, x2.k⟩ : LineV), (⟨x3.p, fop .add .f32 x6.h 1015021568, x3.w, x3.k⟩ : LineV), (⟨x4.p, x4.h, fop .mul .f32 x7.w 1065484288, x4.k⟩ : LineV)] : List LineV).length) 0 ((([] : List (List Nat)) : List ((List Nat))) : (List (List Nat))) : List ((List Nat)))) (rep (restF ys (((ln : List LineV) : List LineV).getD 0 noLine) b d) (ys.length) 0 (([] : List Nat) : (List Nat)))).length : Int) = 3) && decide (0 = 0)) : Bool) with | true => (match (sqOk (diagX 0 (gram ((rep (rowsF ([(⟨fop .add .f32 x5.p (fop .mul .f32 x1.w 1015021568), x2.h, x2.w, x2.k⟩ : LineV), (⟨x3.p, fop .add .f32 x6.h 1015021568, x3.w, x3.k⟩ : LineV), (⟨x4.p, x4.h, fop .mul .f32 x7.w 1065484288, x4.k⟩ : LineV)] : List LineV) ([fop .mul .f32 x1.w 1015021568, 1015021568, fop .mul .f32 x1.w 1015021568] : List Nat) ((ln : List LineV).getD 0 noLine) b d ys.length) (([(⟨fop .add .f32 x5.p (fop .mul .f32 x1.w 1015021568), x2.h, x2.w, x2.k⟩ : LineV), (⟨x3.p, fop .add .f32 x6.h 1015021568, x3.w, x3.k⟩ : LineV), (⟨x4.p, x4.h, fop .mul .f32 x7.w 1065484288, x4.k⟩ : LineV)] : List LineV).length) 0 ((([] : List (List Nat)) : List ((List Nat))) : (List (List Nat))) : List ((List Nat)))) (rep (restF ys (((ln : List LineV) : List LineV).getD 0 noLine) b d) (ys.length) 0 (([] : List Nat) : (List Nat))) : List (List Nat))) && Nat.ble (diagX 0 (gram ((rep (rowsF ([(⟨fop .add .f32 x5.p (fop .mul .f32 x1.w 1015021568), x2.h, x2.w, x2.k⟩ : LineV), (⟨x3.p, fop .add .f32 x6.h 1015021568, x3.w, x3.k⟩ : LineV), (⟨x4.p, x4.h, fop .mul .f32 x7.w 1065484288, x4.k⟩ : LineV)] : List LineV) ([fop .mul .f32 x1.w 1015021568, 1015021568, fop .mul .f32 x1.w 1015021568] : List Nat) ((ln : List LineV).getD 0 noLine) b d ys.length) (([(⟨fop .add .f32 x5.p (fop .mul .f32 x1.w 1015021568), x2.h, x2.w, x2.k⟩ : LineV), (⟨x3.p, fop .add .f32 x6.h 1015021568, x3.w, x3.k⟩ : LineV), (⟨x4.p, x4.h, fop .mul .f32 x7.w 1065484288, x4.k⟩ : LineV)] : List LineV).length) 0 ((([] : List (List Nat)) : List ((List Nat))) : (List (List Nat))) : List ((List Nat)))) (rep (restF ys (((ln : List LineV) : List LineV).getD 0 noLine) b d) (ys.length) 0 (([] : List Nat) : (List Nat))) : List (List Nat))).length 3 : Bool) with | true => (match solveL (diagX 0 (gram ((rep (rowsF ([(⟨fop .add .f32 x5.p (fop .mul .f32 x1.w 1015021568), x2.h, x2.w, x2.k⟩ : LineV), (⟨x3.p, fop .add .f32 x6.h 1015021568, x3.w, x3.k⟩ : LineV), (⟨x4.p, x4.h, fop .mul .f32 x7.w 1065484288, x4.k⟩ : LineV)] : List LineV) ([fop .mul .f32 x1.w 1015021568, 1015021568, fop .mul .f32 x1.w 1015021568] : List Nat) ((ln : List LineV).getD 0 noLine) b d ys.length) (([(⟨fop .add .f32 x5.p (fop .mul .f32 x1.w 1015021568), x2.h, x2.w, x2.k⟩ : LineV), (⟨x3.p, fop .add .f32 x6.h 1015021568, x3.w, x3.k⟩ : LineV), (⟨x4.p, x4.h, fop .mul .f32 x7.w 1065484288, x4.k⟩ : LineV)] : List LineV).length) 0 ((([] : List (List Nat)) : List ((List Nat))) : (List (List Nat))) : List ((List Nat)))) (rep (restF ys (((ln : List LineV) : List LineV).getD 0 noLine) b d) (ys.length) 0 (([] : List Nat) : (List Nat))) : List (List Nat))) with | some l => (match (((ln : List LineV) : List LineV) : List LineV)[0]? with | some x8 => (match (((ln : List LineV) : List LineV) : List LineV)[0]? with | some x9 => (match (decide (0 ≤ (0 : Int) ∧ (0 : Int) < (l.length : Int)) && true : Bool) with | true => (match (l : List Nat)[Int.toNat 0]? with | some x10 => (match (((ln : List LineV) : List LineV) : List LineV)[0]? with | some x11 => (match (decide (0 ≤ (1 : Int) ∧ (1 : Int) < (l.length : Int)) && true : Bool) with | true => (match (l : List Nat)[Int.toNat 1]? with | some x12 => (match (((ln : List LineV) : List LineV) : List LineV)[0]? with | some x13 => (match (decide (0 ≤ (2 : Int) ∧ (2 : Int) < (l.length : Int)) && true : Bool) with | true => (match (l : List Nat)[Int.toNat 2]? with | some x14 => (match (!(okLine ((⟨fop .add .f32 x9.p x10, fop .add .f32 x11.h x12, fop .add .f32 x13.w x14, x8.k⟩ : LineV))) : Bool) with | true => k (.exit 0) ⟨[(5, .fv (.pt ⟨.r 0, 4, 0, 0⟩)), (10, .fv (.pt ⟨.r 1, 4, 0, 0⟩)), (13, .fv (.el (.sc (.fl .f32 rr))))], [some ⟨38, ⟨.line, ((ln : List LineV) : List LineV)⟩⟩, some ⟨38, ⟨.line, ((rz : List LineV) : List LineV)⟩⟩]⟩ | false => (match (Nat.ble ([(⟨fop .add .f32 x9.p x10, fop .add .f32 x11.h x12, fop .add .f32 x13.w x14, x8.k⟩ : LineV)]).length big && Nat.ble ys.length big : Bool) with | true => (match (spAll ([(⟨fop .add .f32 x9.p x10, fop .add .f32 x11.h x12, fop .add .f32 x13.w x14, x8.k⟩ : LineV)]) b d ys.length : Bool) with | true => (match (!(fin (restSum ([(⟨fop .add .f32 x9.p x10, fop .add .f32 x11.h x12, fop .add .f32 x13.w x14, x8.k⟩ : LineV)]) ys b d)) : Bool) with | true => k (.exit 0) ⟨[(5, .fv (.pt ⟨.r 0, 4, 0, 0⟩)), (10, .fv (.pt ⟨.r 1, 4, 0, 0⟩)), (13, .fv (.el (.sc (.fl .f32 rr))))], [some ⟨38, ⟨.line, ((ln : List LineV) : List LineV)⟩⟩, some ⟨38, ⟨.line, ((rz : List LineV) : List LineV)⟩⟩]⟩ | false => (match (fcmp .geq .f32 (restSum ([(⟨fop .add .f32 x9.p x10, fop .add .f32 x11.h x12, fop .add .f32 x13.w x14, x8.k⟩ : LineV)]) ys b d) rr : Bool) with | true => k (.exit 0) ⟨[(5, .fv (.pt ⟨.r 0, 4, 0, 0⟩)), (10, .fv (.pt ⟨.r 1, 4, 0, 0⟩)), (13, .fv (.el (.sc (.fl .f32 rr))))], [some ⟨38, ⟨.line, ((ln : List LineV) : List LineV)⟩⟩, some ⟨38, ⟨.line, ((rz : List LineV) : List LineV)⟩⟩]⟩ | false => (match (((ln : List LineV) : List LineV) : List LineV)[0]? with | some x15 => iterK a15 [1, 2, 3, 4, 5, 10, 13] [5, 10, 13] (codeK T8 a15 l15 Try.f15.ntmps (loopAt Try.f15 0)) m ⟨[(1, .fv (.vw (some 1) ⟨.f32, ys⟩)), (2, .fv (.el (.sc (.fl .f32 b)))), (3, .fv (.el (.sc (.fl .f32 d)))), (4, .fv (.el (.sc (.int .i64 (IntKind.i64.wrap (cc - 1)))))), (5, .fv (.pt ⟨.r 0, 4, 0, 0⟩)), (10, .fv (.pt ⟨.r 1, 4, 0, 0⟩)), (13, .fv (.el (.sc (.fl .f32 (restSum ([(⟨fop .add .f32 x9.p x10, fop .add .f32 x11.h x12, fop .add .f32 x13.w x14, x8.k⟩ : LineV)]) ys b d)))))], [some ⟨38, ⟨.line, (((ln : List LineV) : List LineV) : List LineV).set 0 ((⟨fop .add .f32 x9.p x10, fop .add .f32 x11.h x12, fop .add .f32 x13.w x14, x8.k⟩ : LineV))⟩⟩, some ⟨38, ⟨.line, ((rz : List LineV) : List LineV)⟩⟩]⟩ k | none => none))) | false => k (.exit 0) ⟨[(5, .fv (.pt ⟨.r 0, 4, 0, 0⟩)), (10, .fv (.pt ⟨.r 1, 4, 0, 0⟩)), (13, .fv (.el (.sc (.fl .f32 rr))))], [some ⟨38, ⟨.line, ((ln : List LineV) : List LineV)⟩⟩, some ⟨38, ⟨.line, ((rz : List LineV) : List LineV)⟩⟩]⟩) | false => none)) | none => none) | false => none) | none => none) | none => none) | false => none) | none => none) | none => none) | false => none) | none => none) | none => none) | none => (match (((rz : List LineV) : List LineV) : List LineV)[0]? with | some x16 => k .ret ⟨[(10, .fv (.pt ⟨.r 0, 4, 0, 0⟩)), (11, .fv (.el (.sc (.fl .f32 0)))), (12, .fv (.el (.sc (.bo false))))], [some ⟨38, ⟨.line, (((rz : List LineV) : List LineV) : List LineV).set 0 ((⟨0, 0, 0, 0⟩ : LineV))⟩⟩]⟩ | none => none)) | false => none) | false => none) | false => none) | false => none) | false => none) | none => none) | none => none) | none => none) | none => none) | none => none) | none => none) | none => none) | false => k (.exit 0) ⟨[(5, .fv (.pt ⟨.r 0, 4, 0, 0⟩)), (10, .fv (.pt ⟨.r 1, 4, 0, 0⟩)), (13, .fv (.el (.sc (.fl .f32 rr))))], [some ⟨38, ⟨.line, ln⟩⟩, some ⟨38, ⟨.line, rz⟩⟩]⟩) := by kernel_rfl
theorem ind15 (ys : List Nat) (b d : Nat) (rz : List LineV) (hy : Nat.ble ys.length 128 = true) (rz1 : Nat.ble 1 rz.length = true) (k : Ex → St → R) : ∀ (m : Nat) (ln : List LineV) (rr : Nat), Nat.ble 1 ln.length = true → m ≤ 16 → iterK a15 [1, 2, 3, 4, 5, 10, 13] [5, 10, 13] (codeK T8 a15 l15 Try.f15.ntmps (loopAt Try.f15 0)) (m + 1) ⟨[(1, .fv (.vw (some 1) ⟨.f32, ys⟩)), (2, .fv (.el (.sc (.fl .f32 b)))), (3, .fv (.el (.sc (.fl .f32 d)))), (4, .fv (.el (.sc (.int .i64 (m : Int))))), (5, .fv (.pt ⟨.r 0, 4, 0, 0⟩)), (10, .fv (.pt ⟨.r 1, 4, 0, 0⟩)), (13, .fv (.el (.sc (.fl .f32 rr))))], [some ⟨38, ⟨.line, ln⟩⟩, some ⟨38, ⟨.line, rz⟩⟩]⟩ k =
    (match fitRun (stepS ys b d) m (ln.getD 0 noLine) rr with
    | some s => k (.exit 0) ⟨[(5, .fv (.pt ⟨.r 0, 4, 0, 0⟩)), (10, .fv (.pt ⟨.r 1, 4, 0, 0⟩)), (13, .fv (.el (.sc (.fl .f32 s.2))))], [some ⟨38, ⟨.line, ln.set 0 s.1⟩⟩, some ⟨38, ⟨.line, rz⟩⟩]⟩
    | none => k .ret ⟨[(10, .fv (.pt ⟨.r 0, 4, 0, 0⟩)), (11, .fv (.el (.sc (.fl .f32 0)))), (12, .fv (.el (.sc (.bo false))))], [some ⟨38, ⟨.line, rz.set 0 (⟨0, 0, 0, 0⟩ : LineV)⟩⟩]⟩) := by
  intro m
  induction m with
  | zero =>
    intro ln rr l1 hj
    have h1 : ¬ (((0 : Nat) : Int) > 0) := by omega
    have l1_ := Nat.le_of_ble_eq_true l1
    rw [st15]
    simp only [h1, decide_false, fitRun, set_getD]
  | succ m ih =>
    intro ln rr l1 hj
    have h1 : ((m + 1 : Nat) : Int) > 0 := by omega
    have l1_ := Nat.le_of_ble_eq_true l1
    have hy_ := Nat.le_of_ble_eq_true hy
    have lq : ln[0]? = some (ln.getD 0 noLine) := getI2 (by omega)
    have wn : IntKind.i64.wrap (((m + 1 : Nat) : Int) - 1) = ((m : Nat) : Int) := wrapN (by omega) (by omega)
    rw [st15]
    simp only [h1, lq, wn, hy, decide_true]
    have rz1_ := Nat.le_of_ble_eq_true rz1
    have rq : rz[0]? = some (rz.getD 0 noLine) := getI2 (by omega)
    have nx : ∀ a : LineV, (ln.set 0 a).getD 0 noLine = a := fun a => getD_set0 l1_
    have nl : ∀ a : LineV, Nat.ble 1 (ln.set 0 a).length = true := fun a => by rw [List.length_set]; exact l1
    have nss : ∀ a c : LineV, (ln.set 0 a).set 0 c = ln.set 0 c := fun a c => List.set_set _
    have nse : ln.set 0 (ln.getD 0 noLine) = ln := set_getD _ _
    generalize ln.getD 0 noLine = L at *
    have eA : [(⟨fop .add .f32 L.p (fop .mul .f32 L.w 1015021568), L.h, L.w, L.k⟩ : LineV), ⟨L.p, fop .add .f32 L.h 1015021568, L.w, L.k⟩, ⟨L.p, L.h, fop .mul .f32 L.w 1065484288, L.k⟩] = alts L := rfl
    have eB : [fop .mul .f32 L.w 1015021568, 1015021568, fop .mul .f32 L.w 1015021568] = byS L := rfl
    have a1 : Nat.ble (alts L).length big = true := rfl
    have a2 : Nat.ble (alts L).length (byS L).length = true := rfl
    have a3 : Nat.ble (([] : List (List Nat)).length + (alts L).length) big = true := rfl
    have a4 : Nat.ble (([] : List Nat).length + ys.length) big = true := big_of (by rw [List.length_nil]; omega)
    have a5 : (alts L).length = 3 := rfl
    have hyb : Nat.ble ys.length big = true := big_of (by omega)
    obtain ⟨f1, f2, f3, f4⟩ := chS_fit L b d hy_
    have a6 : decide (((gram (rep (rowsF (alts L) (byS L) L b d ys.length) 3 0 []) (rep (restF ys L b d) ys.length 0 [])).length : Int) = 3) = true := decide_eq_true (by rw [f4]; rfl)
    have hS : solveL (diagX 0 (gram (rep (rowsF (alts L) (byS L) L b d ys.length) 3 0 []) (rep (restF ys L b d) ys.length 0 []))) = chS L ys b d := rfl
    simp only [eA, eB, a1, a2, a3, a4, l1, Bool.and_self, Bool.true_and, Bool.and_true]
    have a7 := diag_len3 f2
    simp only [a5, f1, f2, f3, a6, a7, hS, Bool.and_self]
    rw [fitRun_succ]
    unfold stepS
    cases hc : chS L ys b d with
    | none => simp only [rq]
    | some c =>
      obtain ⟨c0, c1, c2, rfl⟩ := lst3 (chS_len hy_ hc)
      have k0 : decide ((0 : Int) ≤ 0 ∧ (0 : Int) < (([c0, c1, c2] : List Nat).length : Int)) = true := decide_eq_true (by simp)
      have k1 : decide ((0 : Int) ≤ 1 ∧ (1 : Int) < (([c0, c1, c2] : List Nat).length : Int)) = true := decide_eq_true (by simp)
      have k2 : decide ((0 : Int) ≤ 2 ∧ (2 : Int) < (([c0, c1, c2] : List Nat).length : Int)) = true := decide_eq_true (by simp)
      have i0 : ([c0, c1, c2] : List Nat)[Int.toNat 0]? = some c0 := rfl
      have i1 : ([c0, c1, c2] : List Nat)[Int.toNat 1]? = some c1 := rfl
      have i2 : ([c0, c1, c2] : List Nat)[Int.toNat 2]? = some c2 := rfl
      have eN : (⟨fop .add .f32 L.p c0, fop .add .f32 L.h c1, fop .add .f32 L.w c2, L.k⟩ : LineV) = nextL L [c0, c1, c2] := rfl
      have g1 : Nat.ble [nextL L [c0, c1, c2]].length big = true := rfl
      simp only [k0, k1, k2, i0, i1, i2, eN, g1, hyb, Bool.and_self, Bool.and_true]
      generalize nextL L [c0, c1, c2] = N at *
      generalize restSum [N] ys b d = Q at *
      have hh := ih (ln.set 0 N) Q (nl N) (by omega)
      simp only [nx, nss] at hh
      cases okLine N with
      | false => simp only [Bool.not_false, Bool.false_and, cond_false, nse]
      | true =>
      cases spAll [N] b d ys.length with
      | false => simp only [Bool.not_true, Bool.false_and, Bool.and_false, cond_false, nse]
      | true =>
      cases fin Q with
      | false => simp only [Bool.not_true, Bool.not_false, Bool.false_and, Bool.and_false, cond_false, nse]
      | true =>
      cases fcmp .geq .f32 Q rr with
      | true => simp only [Bool.not_true, Bool.and_false, cond_false, nse]
      | false =>
        simp only [Bool.not_true, Bool.not_false, Bool.and_self, cond_true]
        exact hh

theorem lk15 : LOK T8 a15 l15 Try.f15.ntmps (loopAt Try.f15 0) := by
  intro ins outs hA s k out h
  have hA' : ([1, 2, 3, 4, 5, 10, 13], [5, 10, 13]) = (ins, outs) := Option.some.inj ((show a15.lp (firstRegion (loopAt Try.f15 0)) = some ([1, 2, 3, 4, 5, 10, 13], [5, 10, 13]) by kernel_rfl).symm.trans hA)
  cases hA'
  have hk : firstRegion (loopAt Try.f15 0) = 6 := by kernel_rfl
  rw [hk] at h
  change lp15 s k = some out at h
  unfold lp15 at h
  split at h
  · rename_i ys b d cc rr ln rz
    cases hg : (decide (0 ≤ cc ∧ cc ≤ 16) && (Nat.ble 1 ln.length && (Nat.ble 1 rz.length && Nat.ble ys.length 128))) with
    | false => rw [hg] at h; cases h
    | true =>
      rw [hg] at h
      simp only [Bool.and_eq_true, decide_eq_true_eq] at hg
      obtain ⟨⟨hc0, hc1⟩, l1, rz1, hy⟩ := hg
      refine ⟨cc.toNat + 1, ?_⟩
      have hcc : ((cc.toNat : Nat) : Int) = cc := by omega
      have hh := ind15 ys b d rz hy rz1 k cc.toNat ln rr l1 (by omega)
      rw [hcc] at hh
      exact hh.trans h
  · cases h
theorem st15_1 (ys : List Nat) (b : Nat) (d : Nat) (cc : Int) (rr : Nat) (n : Int) (i : Int) (ln : List LineV) (rz : List LineV) (ss : List Nat) (us : List LineV) (gs : List ((List Nat))) (m : Nat) (k : Ex → St → R) : iterK a15 [1, 2, 3, 4, 5, 10, 13, 16, 17, 18, 107, 108] [1, 2, 3, 4, 5, 10, 13, 18] (codeK T8 a15 l15 Try.f15.ntmps (loopAt Try.f15 1)) (m + 1) ⟨[(1, .fv (.vw (some 1) ⟨.f32, ys⟩)), (2, .fv (.el (.sc (.fl .f32 b)))), (3, .fv (.el (.sc (.fl .f32 d)))), (4, .fv (.el (.sc (.int .i64 cc)))), (5, .fv (.pt ⟨.r 0, 4, 0, 0⟩)), (10, .fv (.pt ⟨.r 1, 4, 0, 0⟩)), (13, .fv (.el (.sc (.fl .f32 rr)))), (16, .fv (.own 2)), (17, .fv (.own 3)), (18, .fv (.own 4)), (107, .fv (.el (.sc (.int .i64 n)))), (108, .fv (.el (.sc (.int .i64 i))))], [some ⟨38, ⟨.line, ln⟩⟩, some ⟨38, ⟨.line, rz⟩⟩, some ⟨24, ⟨.f32, ss⟩⟩, some ⟨38, ⟨.line, us⟩⟩, some ⟨23, ⟨.lf, gs⟩⟩]⟩ k = (match (decide ((i : Int) < n) : Bool) with | true => (match ((decide (((ys.length : Int)) = (ys.length : Int)) && (decide (0 = 0) && (Nat.ble ys.length 128 && (decide (0 ≤ i ∧ i < ((us : List LineV).length : Int)) && (Nat.ble (us : List LineV).length (ss : List Nat).length && (Nat.ble 1 (ln : List LineV).length && Nat.ble (([] : List Nat).length + ys.length) big)))))) : Bool) with | true => (match (decide (((gs : List ((List Nat))) : List (List Nat)).length + ([rep (rowF ((us : List LineV).getD i.toNat noLine) ((ln : List LineV).getD 0 noLine) ((ss : List Nat).getD i.toNat 0) b d) (ys.length) 0 (([] : List Nat) : (List Nat))] : List (List Nat)).length ≤ 1099511627776) : Bool) with | true => iterK a15 [1, 2, 3, 4, 5, 10, 13, 16, 17, 18, 107, 108] [1, 2, 3, 4, 5, 10, 13, 18] (codeK T8 a15 l15 Try.f15.ntmps (loopAt Try.f15 1)) m ⟨[(1, .fv (.vw (some 1) ⟨.f32, ys⟩)), (2, .fv (.el (.sc (.fl .f32 b)))), (3, .fv (.el (.sc (.fl .f32 d)))), (4, .fv (.el (.sc (.int .i64 cc)))), (5, .fv (.pt ⟨.r 0, 4, 0, 0⟩)), (10, .fv (.pt ⟨.r 1, 4, 0, 0⟩)), (13, .fv (.el (.sc (.fl .f32 rr)))), (16, .fv (.own 2)), (17, .fv (.own 3)), (18, .fv (.own 4)), (107, .fv (.el (.sc (.int .i64 n)))), (108, .fv (.el (.sc (.int .i64 (IntKind.i64.wrap (i + 1))))))], [some ⟨38, ⟨.line, (ln : List LineV)⟩⟩, some ⟨38, ⟨.line, (rz : List LineV)⟩⟩, some ⟨24, ⟨.f32, (ss : List Nat)⟩⟩, some ⟨38, ⟨.line, (us : List LineV)⟩⟩, some ⟨23, ⟨.lf, ((gs : List ((List Nat))) : List (List Nat)) ++ ([rep (rowF ((us : List LineV).getD i.toNat noLine) ((ln : List LineV).getD 0 noLine) ((ss : List Nat).getD i.toNat 0) b d) (ys.length) 0 (([] : List Nat) : (List Nat))])⟩⟩]⟩ k | false => none) | false => none) | false => k (.exit 2) ⟨[(1, .fv (.vw (some 1) ⟨.f32, ys⟩)), (2, .fv (.el (.sc (.fl .f32 b)))), (3, .fv (.el (.sc (.fl .f32 d)))), (4, .fv (.el (.sc (.int .i64 cc)))), (5, .fv (.pt ⟨.r 0, 4, 0, 0⟩)), (10, .fv (.pt ⟨.r 1, 4, 0, 0⟩)), (13, .fv (.el (.sc (.fl .f32 rr)))), (18, .fv (.own 2))], [some ⟨38, ⟨.line, ln⟩⟩, some ⟨38, ⟨.line, rz⟩⟩, some ⟨23, ⟨.lf, gs⟩⟩]⟩) := by kernel_rfl
theorem ind15_1 (ys : List Nat) (b : Nat) (d : Nat) (cc : Int) (rr : Nat) (ln : List LineV) (rz : List LineV) (ss : List Nat) (us : List LineV) (hx : (Nat.ble us.length big) = true) (hus : (Nat.ble us.length ss.length) = true) (l1 : (Nat.ble 1 ln.length) = true) (hy : (Nat.ble ys.length 128) = true) (k : Ex → St → R) : ∀ (m j : Nat) (gs : List (List Nat)), gs.length + m ≤ 1099511627776 → 0 ≤ j → j + m = us.length → iterK a15 [1, 2, 3, 4, 5, 10, 13, 16, 17, 18, 107, 108] [1, 2, 3, 4, 5, 10, 13, 18] (codeK T8 a15 l15 Try.f15.ntmps (loopAt Try.f15 1)) (m + 1) ⟨[(1, .fv (.vw (some 1) ⟨.f32, ys⟩)), (2, .fv (.el (.sc (.fl .f32 b)))), (3, .fv (.el (.sc (.fl .f32 d)))), (4, .fv (.el (.sc (.int .i64 cc)))), (5, .fv (.pt ⟨.r 0, 4, 0, 0⟩)), (10, .fv (.pt ⟨.r 1, 4, 0, 0⟩)), (13, .fv (.el (.sc (.fl .f32 rr)))), (16, .fv (.own 2)), (17, .fv (.own 3)), (18, .fv (.own 4)), (107, .fv (.el (.sc (.int .i64 (us.length : Int))))), (108, .fv (.el (.sc (.int .i64 (j : Int)))))], [some ⟨38, ⟨.line, ln⟩⟩, some ⟨38, ⟨.line, rz⟩⟩, some ⟨24, ⟨.f32, ss⟩⟩, some ⟨38, ⟨.line, us⟩⟩, some ⟨23, ⟨.lf, gs⟩⟩]⟩ k =
    k (.exit 2) ⟨[(1, .fv (.vw (some 1) ⟨.f32, ys⟩)), (2, .fv (.el (.sc (.fl .f32 b)))), (3, .fv (.el (.sc (.fl .f32 d)))), (4, .fv (.el (.sc (.int .i64 cc)))), (5, .fv (.pt ⟨.r 0, 4, 0, 0⟩)), (10, .fv (.pt ⟨.r 1, 4, 0, 0⟩)), (13, .fv (.el (.sc (.fl .f32 rr)))), (18, .fv (.own 2))], [some ⟨38, ⟨.line, ln⟩⟩, some ⟨38, ⟨.line, rz⟩⟩, some ⟨23, ⟨.lf, rep (rowsF us ss (ln.getD 0 noLine) b d ys.length) m j (gs : (List (List Nat)))⟩⟩]⟩ := by
  intro m
  induction m with
  | zero =>
    intro j gs hs0 hlo hj
    have hx_ := big_le hx
    have hus_ := Nat.le_of_ble_eq_true hus
    have l1_ := Nat.le_of_ble_eq_true l1
    have hy_ := Nat.le_of_ble_eq_true hy
    have h1 : ¬ (((j : Int) < (us.length : Int))) := by omega
    rw [st15_1]
    simp only [h1, rep, decide_false] <;> rfl
  | succ m ih =>
    intro j gs hs0 hlo hj
    have hx_ := big_le hx
    have hus_ := Nat.le_of_ble_eq_true hus
    have l1_ := Nat.le_of_ble_eq_true l1
    have hy_ := Nat.le_of_ble_eq_true hy
    have h1 : ((j : Int) < (us.length : Int)) := by omega
    have lq : ln[0]? = some (ln.getD 0 noLine) := getI2 (by omega)
    have jn : (0 : Int) ≤ ((j : Nat) : Int) := by omega
    have hgl : gs.length + 1 ≤ 1099511627776 := by omega
    have hbq : Nat.beq 24 24 = true := rfl
    have wn : IntKind.i64.wrap ((j : Int) + 1) = ((j + 1 : Nat) : Int) := wrapN (by omega) (by omega)
    rw [st15_1]
    simp only [h1, wn, lq, jn, hgl, hbq, and_self, decide_true, Bool.and_true, Int.le_refl]
    have l1_ := Nat.le_of_ble_eq_true l1
    have c1 : Nat.ble ys.length 128 = true := hy
    have c2 : decide ((0 : Int) ≤ (j : Int) ∧ (j : Int) < (us.length : Int)) = true := decide_eq_true (by omega)
    have c3 : Nat.ble (([] : List Nat).length + ys.length) big = true := big_of (by rw [List.length_nil]; omega)
    have c4 : rep (rowF (us.getD j noLine) (ln.getD 0 noLine) (ss.getD j 0) b d) ys.length 0 [] = rowS (us.getD j noLine) (ln.getD 0 noLine) (ss.getD j 0) b d ys.length := rfl
    simp only [Int.toNat_natCast, c1, hus, l1, c3, c4, hgl, jn, List.length_singleton, and_self, decide_true, Bool.and_self, Bool.true_and]
    exact ih (j + 1) (gs ++ [rowS (us.getD j noLine) (ln.getD 0 noLine) (ss.getD j 0) b d ys.length]) (by simp; omega) (by omega) (by omega)

theorem lk15_1 : LOK T8 a15 l15 Try.f15.ntmps (loopAt Try.f15 1) := by
  intro ins outs hA s k out h
  have hA' : ([1, 2, 3, 4, 5, 10, 13, 16, 17, 18, 107, 108], [1, 2, 3, 4, 5, 10, 13, 18]) = (ins, outs) := Option.some.inj ((show a15.lp (firstRegion (loopAt Try.f15 1)) = some ([1, 2, 3, 4, 5, 10, 13, 16, 17, 18, 107, 108], [1, 2, 3, 4, 5, 10, 13, 18]) by kernel_rfl).symm.trans hA)
  cases hA'
  have hk : firstRegion (loopAt Try.f15 1) = 16 := by kernel_rfl
  rw [hk] at h
  change lp15_1 s k = some out at h
  unfold lp15_1 at h
  split at h
  · rename_i ys b d cc rr n i ln rz ss us gs
    cases hg : (decide (n = (us.length : Int)) && (decide (i = 0) && (Nat.ble us.length big && (Nat.ble us.length ss.length && (Nat.ble 1 ln.length && (Nat.ble ys.length 128 && Nat.ble (gs.length + us.length) big)))))) with
    | false => rw [hg] at h; cases h
    | true =>
      rw [hg] at h
      simp only [Bool.and_eq_true, decide_eq_true_eq] at hg
      obtain ⟨rfl, rfl, hx, hus, l1, hy, gs0⟩ := hg
      refine ⟨(us.length) + 1, ?_⟩
      have hx_ := big_le hx
      have hus_ := Nat.le_of_ble_eq_true hus
      have l1_ := Nat.le_of_ble_eq_true l1
      have hy_ := Nat.le_of_ble_eq_true hy
      have gs0_ := big_le gs0
      exact (ind15_1 ys b d cc rr ln rz ss us hx hus l1 hy k (us.length) 0 gs (by omega) (by omega) (by omega)).trans h
  · cases h
theorem st15_2 (ys : List Nat) (b : Nat) (d : Nat) (cc : Int) (rr : Nat) (z : Int) (n : Int) (i : Int) (n2 : Int) (q : Int) (ln : List LineV) (rz : List LineV) (ss : List Nat) (us : List LineV) (gs : List ((List Nat))) (rs : List Nat) (m : Nat) (k : Ex → St → R) : iterK a15 [1, 2, 3, 4, 5, 10, 13, 16, 17, 18, 19, 20, 107, 108, 113, 114] [1, 2, 3, 4, 5, 10, 13, 16, 17, 18, 20, 107, 108] (codeK T8 a15 l15 Try.f15.ntmps (loopAt Try.f15 2)) (m + 1) ⟨[(1, .fv (.vw (some 1) ⟨.f32, ys⟩)), (2, .fv (.el (.sc (.fl .f32 b)))), (3, .fv (.el (.sc (.fl .f32 d)))), (4, .fv (.el (.sc (.int .i64 cc)))), (5, .fv (.pt ⟨.r 0, 4, 0, 0⟩)), (10, .fv (.pt ⟨.r 1, 4, 0, 0⟩)), (13, .fv (.el (.sc (.fl .f32 rr)))), (16, .fv (.own 2)), (17, .fv (.own 3)), (18, .fv (.own 4)), (19, .fv (.el (.sc (.int .i64 z)))), (20, .fv (.own 5)), (107, .fv (.el (.sc (.int .i64 n)))), (108, .fv (.el (.sc (.int .i64 i)))), (113, .fv (.el (.sc (.int .i64 n2)))), (114, .fv (.el (.sc (.int .i64 q))))], [some ⟨38, ⟨.line, ln⟩⟩, some ⟨38, ⟨.line, rz⟩⟩, some ⟨24, ⟨.f32, ss⟩⟩, some ⟨38, ⟨.line, us⟩⟩, some ⟨23, ⟨.lf, gs⟩⟩, some ⟨24, ⟨.f32, rs⟩⟩]⟩ k = (match (decide ((q : Int) < n2) : Bool) with | true => (match (decide (0 ≤ (z : Int) ∧ (z : Int) < (us.length : Int)) && true : Bool) with | true => (match us[Int.toNat z]? with | some l_5 => (match ln[0]? with | some l_6 => (match (decide (0 ≤ (z : Int) ∧ (z : Int) < (ss.length : Int)) && true : Bool) with | true => (match (ss : List Nat)[Int.toNat z]? with | some x1 => (match (Nat.beq 24 24 && decide ((rs : List Nat).length + ([fop .quo .f32 (fop .sub .f32 (lineV l_5 (placeAt b d q)) (lineV l_6 (placeAt b d q))) x1] : List Nat).length ≤ 1099511627776) : Bool) with | true => iterK a15 [1, 2, 3, 4, 5, 10, 13, 16, 17, 18, 19, 20, 107, 108, 113, 114] [1, 2, 3, 4, 5, 10, 13, 16, 17, 18, 20, 107, 108] (codeK T8 a15 l15 Try.f15.ntmps (loopAt Try.f15 2)) m ⟨[(1, .fv (.vw (some 1) ⟨.f32, ys⟩)), (2, .fv (.el (.sc (.fl .f32 b)))), (3, .fv (.el (.sc (.fl .f32 d)))), (4, .fv (.el (.sc (.int .i64 cc)))), (5, .fv (.pt ⟨.r 0, 4, 0, 0⟩)), (10, .fv (.pt ⟨.r 1, 4, 0, 0⟩)), (13, .fv (.el (.sc (.fl .f32 rr)))), (16, .fv (.own 2)), (17, .fv (.own 3)), (18, .fv (.own 4)), (19, .fv (.el (.sc (.int .i64 z)))), (20, .fv (.own 5)), (107, .fv (.el (.sc (.int .i64 n)))), (108, .fv (.el (.sc (.int .i64 i)))), (113, .fv (.el (.sc (.int .i64 n2)))), (114, .fv (.el (.sc (.int .i64 (IntKind.i64.wrap (q + 1))))))], [some ⟨38, ⟨.line, ln⟩⟩, some ⟨38, ⟨.line, rz⟩⟩, some ⟨24, ⟨.f32, ss⟩⟩, some ⟨38, ⟨.line, us⟩⟩, some ⟨23, ⟨.lf, gs⟩⟩, some ⟨24, ⟨.f32, (rs : List Nat) ++ ([fop .quo .f32 (fop .sub .f32 (lineV l_5 (placeAt b d q)) (lineV l_6 (placeAt b d q))) x1])⟩⟩]⟩ k | false => none) | none => none) | false => none) | none => none) | none => none) | false => none) | false => k (.exit 4) ⟨[(1, .fv (.vw (some 1) ⟨.f32, ys⟩)), (2, .fv (.el (.sc (.fl .f32 b)))), (3, .fv (.el (.sc (.fl .f32 d)))), (4, .fv (.el (.sc (.int .i64 cc)))), (5, .fv (.pt ⟨.r 0, 4, 0, 0⟩)), (10, .fv (.pt ⟨.r 1, 4, 0, 0⟩)), (13, .fv (.el (.sc (.fl .f32 rr)))), (16, .fv (.own 2)), (17, .fv (.own 3)), (18, .fv (.own 4)), (20, .fv (.own 5)), (107, .fv (.el (.sc (.int .i64 n)))), (108, .fv (.el (.sc (.int .i64 i))))], [some ⟨38, ⟨.line, ln⟩⟩, some ⟨38, ⟨.line, rz⟩⟩, some ⟨24, ⟨.f32, ss⟩⟩, some ⟨38, ⟨.line, us⟩⟩, some ⟨23, ⟨.lf, gs⟩⟩, some ⟨24, ⟨.f32, rs⟩⟩]⟩) := by kernel_rfl
theorem ind15_2 (ys : List Nat) (b : Nat) (d : Nat) (cc : Int) (rr : Nat) (z : Int) (n : Int) (i : Int) (ln : List LineV) (rz : List LineV) (ss : List Nat) (us : List LineV) (gs : List ((List Nat))) (hy : (Nat.ble ys.length 128) = true) (hz : (decide (0 ≤ z ∧ z < (us.length : Int))) = true) (hus : (Nat.ble us.length ss.length) = true) (l1 : (Nat.ble 1 ln.length) = true) (k : Ex → St → R) : ∀ (m j : Nat) (rs : List Nat), rs.length + m ≤ 1099511627776 → 0 ≤ j → j + m = ys.length → iterK a15 [1, 2, 3, 4, 5, 10, 13, 16, 17, 18, 19, 20, 107, 108, 113, 114] [1, 2, 3, 4, 5, 10, 13, 16, 17, 18, 20, 107, 108] (codeK T8 a15 l15 Try.f15.ntmps (loopAt Try.f15 2)) (m + 1) ⟨[(1, .fv (.vw (some 1) ⟨.f32, ys⟩)), (2, .fv (.el (.sc (.fl .f32 b)))), (3, .fv (.el (.sc (.fl .f32 d)))), (4, .fv (.el (.sc (.int .i64 cc)))), (5, .fv (.pt ⟨.r 0, 4, 0, 0⟩)), (10, .fv (.pt ⟨.r 1, 4, 0, 0⟩)), (13, .fv (.el (.sc (.fl .f32 rr)))), (16, .fv (.own 2)), (17, .fv (.own 3)), (18, .fv (.own 4)), (19, .fv (.el (.sc (.int .i64 z)))), (20, .fv (.own 5)), (107, .fv (.el (.sc (.int .i64 n)))), (108, .fv (.el (.sc (.int .i64 i)))), (113, .fv (.el (.sc (.int .i64 (ys.length : Int))))), (114, .fv (.el (.sc (.int .i64 (j : Int)))))], [some ⟨38, ⟨.line, ln⟩⟩, some ⟨38, ⟨.line, rz⟩⟩, some ⟨24, ⟨.f32, ss⟩⟩, some ⟨38, ⟨.line, us⟩⟩, some ⟨23, ⟨.lf, gs⟩⟩, some ⟨24, ⟨.f32, rs⟩⟩]⟩ k =
    k (.exit 4) ⟨[(1, .fv (.vw (some 1) ⟨.f32, ys⟩)), (2, .fv (.el (.sc (.fl .f32 b)))), (3, .fv (.el (.sc (.fl .f32 d)))), (4, .fv (.el (.sc (.int .i64 cc)))), (5, .fv (.pt ⟨.r 0, 4, 0, 0⟩)), (10, .fv (.pt ⟨.r 1, 4, 0, 0⟩)), (13, .fv (.el (.sc (.fl .f32 rr)))), (16, .fv (.own 2)), (17, .fv (.own 3)), (18, .fv (.own 4)), (20, .fv (.own 5)), (107, .fv (.el (.sc (.int .i64 n)))), (108, .fv (.el (.sc (.int .i64 i))))], [some ⟨38, ⟨.line, ln⟩⟩, some ⟨38, ⟨.line, rz⟩⟩, some ⟨24, ⟨.f32, ss⟩⟩, some ⟨38, ⟨.line, us⟩⟩, some ⟨23, ⟨.lf, gs⟩⟩, some ⟨24, ⟨.f32, rep (rowF (us.getD z.toNat noLine) (ln.getD 0 noLine) (ss.getD z.toNat 0) b d) m j (rs : (List Nat))⟩⟩]⟩ := by
  intro m
  induction m with
  | zero =>
    intro j rs hs0 hlo hj
    have hy_ := Nat.le_of_ble_eq_true hy
    have hus_ := Nat.le_of_ble_eq_true hus
    have l1_ := Nat.le_of_ble_eq_true l1
    have h1 : ¬ (((j : Int) < (ys.length : Int))) := by omega
    rw [st15_2]
    simp only [h1, rep, decide_false] <;> rfl
  | succ m ih =>
    intro j rs hs0 hlo hj
    have hy_ := Nat.le_of_ble_eq_true hy
    have hus_ := Nat.le_of_ble_eq_true hus
    have l1_ := Nat.le_of_ble_eq_true l1
    have h1 : ((j : Int) < (ys.length : Int)) := by omega
    have lq : ln[0]? = some (ln.getD 0 noLine) := getI2 (by omega)
    have hrl : rs.length + 1 ≤ 1099511627776 := by omega
    have hbq : Nat.beq 24 24 = true := rfl
    have wn : IntKind.i64.wrap ((j : Int) + 1) = ((j + 1 : Nat) : Int) := wrapN (by omega) (by omega)
    rw [st15_2]
    simp only [h1, wn, lq, hrl, hbq, and_self, decide_true, Bool.and_true, Int.le_refl]
    have hz2 := of_decide_eq_true hz
    have c1 : us[z.toNat]? = some (us.getD z.toNat noLine) := getI2 (by omega)
    have c2 : decide (0 ≤ z ∧ z < (ss.length : Int)) = true := decide_eq_true (by omega)
    have c3 : ss[z.toNat]? = some (ss.getD z.toNat 0) := getI2 (by omega)
    simp only [hz, c1, c2, c3, hrl, List.length_singleton, decide_true, Bool.and_self]
    exact ih (j + 1) (rowF (us.getD z.toNat noLine) (ln.getD 0 noLine) (ss.getD z.toNat 0) b d j rs) (by simp [rowF]; omega) (by omega) (by omega)

theorem lk15_2 : LOK T8 a15 l15 Try.f15.ntmps (loopAt Try.f15 2) := by
  intro ins outs hA s k out h
  have hA' : ([1, 2, 3, 4, 5, 10, 13, 16, 17, 18, 19, 20, 107, 108, 113, 114], [1, 2, 3, 4, 5, 10, 13, 16, 17, 18, 20, 107, 108]) = (ins, outs) := Option.some.inj ((show a15.lp (firstRegion (loopAt Try.f15 2)) = some ([1, 2, 3, 4, 5, 10, 13, 16, 17, 18, 19, 20, 107, 108, 113, 114], [1, 2, 3, 4, 5, 10, 13, 16, 17, 18, 20, 107, 108]) by kernel_rfl).symm.trans hA)
  cases hA'
  have hk : firstRegion (loopAt Try.f15 2) = 20 := by kernel_rfl
  rw [hk] at h
  change lp15_2 s k = some out at h
  unfold lp15_2 at h
  split at h
  · rename_i ys b d cc rr z n i n2 q ln rz ss us gs rs
    cases hg : (decide (n2 = (ys.length : Int)) && (decide (q = 0) && (Nat.ble ys.length 128 && (decide (0 ≤ z ∧ z < (us.length : Int)) && (Nat.ble us.length ss.length && (Nat.ble 1 ln.length && Nat.ble (rs.length + ys.length) big)))))) with
    | false => rw [hg] at h; cases h
    | true =>
      rw [hg] at h
      simp only [Bool.and_eq_true, decide_eq_true_eq] at hg
      obtain ⟨rfl, rfl, hy, hz, hus, l1, gs0⟩ := hg
      refine ⟨(ys.length) + 1, ?_⟩
      have hy_ := Nat.le_of_ble_eq_true hy
      have hus_ := Nat.le_of_ble_eq_true hus
      have l1_ := Nat.le_of_ble_eq_true l1
      have gs0_ := big_le gs0
      exact (ind15_2 ys b d cc rr z n i ln rz ss us gs hy (decide_eq_true hz) hus l1 k (ys.length) 0 rs (by omega) (by omega) (by omega)).trans h
  · cases h
theorem st15_3 (ys : List Nat) (b : Nat) (d : Nat) (cc : Int) (rr : Nat) (n : Int) (i : Int) (ln : List LineV) (rz : List LineV) (gs : List ((List Nat))) (rs : List Nat) (m : Nat) (k : Ex → St → R) : iterK a15 [1, 2, 3, 4, 5, 10, 13, 18, 23, 145, 146] [1, 2, 3, 4, 5, 10, 13, 18, 23] (codeK T8 a15 l15 Try.f15.ntmps (loopAt Try.f15 3)) (m + 1) ⟨[(1, .fv (.vw (some 1) ⟨.f32, ys⟩)), (2, .fv (.el (.sc (.fl .f32 b)))), (3, .fv (.el (.sc (.fl .f32 d)))), (4, .fv (.el (.sc (.int .i64 cc)))), (5, .fv (.pt ⟨.r 0, 4, 0, 0⟩)), (10, .fv (.pt ⟨.r 1, 4, 0, 0⟩)), (13, .fv (.el (.sc (.fl .f32 rr)))), (18, .fv (.own 2)), (23, .fv (.own 3)), (145, .fv (.el (.sc (.int .i64 n)))), (146, .fv (.el (.sc (.int .i64 i))))], [some ⟨38, ⟨.line, ln⟩⟩, some ⟨38, ⟨.line, rz⟩⟩, some ⟨23, ⟨.lf, gs⟩⟩, some ⟨24, ⟨.f32, rs⟩⟩]⟩ k = (match (decide ((i : Int) < n) : Bool) with | true => (match (decide (0 ≤ (i : Int) ∧ (i : Int) < (ys.length : Int)) && true : Bool) with | true => (match (ys : List Nat)[Int.toNat i]? with | some x1 => (match ln[0]? with | some l_7 => (match (Nat.beq 24 24 && decide ((rs : List Nat).length + ([fop .sub .f32 x1 (lineV l_7 (placeAt b d i))] : List Nat).length ≤ 1099511627776) : Bool) with | true => iterK a15 [1, 2, 3, 4, 5, 10, 13, 18, 23, 145, 146] [1, 2, 3, 4, 5, 10, 13, 18, 23] (codeK T8 a15 l15 Try.f15.ntmps (loopAt Try.f15 3)) m ⟨[(1, .fv (.vw (some 1) ⟨.f32, ys⟩)), (2, .fv (.el (.sc (.fl .f32 b)))), (3, .fv (.el (.sc (.fl .f32 d)))), (4, .fv (.el (.sc (.int .i64 cc)))), (5, .fv (.pt ⟨.r 0, 4, 0, 0⟩)), (10, .fv (.pt ⟨.r 1, 4, 0, 0⟩)), (13, .fv (.el (.sc (.fl .f32 rr)))), (18, .fv (.own 2)), (23, .fv (.own 3)), (145, .fv (.el (.sc (.int .i64 n)))), (146, .fv (.el (.sc (.int .i64 (IntKind.i64.wrap (i + 1))))))], [some ⟨38, ⟨.line, ln⟩⟩, some ⟨38, ⟨.line, rz⟩⟩, some ⟨23, ⟨.lf, gs⟩⟩, some ⟨24, ⟨.f32, (rs : List Nat) ++ ([fop .sub .f32 x1 (lineV l_7 (placeAt b d i))])⟩⟩]⟩ k | false => none) | none => none) | none => none) | false => none) | false => k (.exit 6) ⟨[(1, .fv (.vw (some 1) ⟨.f32, ys⟩)), (2, .fv (.el (.sc (.fl .f32 b)))), (3, .fv (.el (.sc (.fl .f32 d)))), (4, .fv (.el (.sc (.int .i64 cc)))), (5, .fv (.pt ⟨.r 0, 4, 0, 0⟩)), (10, .fv (.pt ⟨.r 1, 4, 0, 0⟩)), (13, .fv (.el (.sc (.fl .f32 rr)))), (18, .fv (.own 2)), (23, .fv (.own 3))], [some ⟨38, ⟨.line, ln⟩⟩, some ⟨38, ⟨.line, rz⟩⟩, some ⟨23, ⟨.lf, gs⟩⟩, some ⟨24, ⟨.f32, rs⟩⟩]⟩) := by kernel_rfl
theorem ind15_3 (ys : List Nat) (b : Nat) (d : Nat) (cc : Int) (rr : Nat) (ln : List LineV) (rz : List LineV) (gs : List ((List Nat))) (hy : (Nat.ble ys.length 128) = true) (l1 : (Nat.ble 1 ln.length) = true) (k : Ex → St → R) : ∀ (m j : Nat) (rs : List Nat), rs.length + m ≤ 1099511627776 → 0 ≤ j → j + m = ys.length → iterK a15 [1, 2, 3, 4, 5, 10, 13, 18, 23, 145, 146] [1, 2, 3, 4, 5, 10, 13, 18, 23] (codeK T8 a15 l15 Try.f15.ntmps (loopAt Try.f15 3)) (m + 1) ⟨[(1, .fv (.vw (some 1) ⟨.f32, ys⟩)), (2, .fv (.el (.sc (.fl .f32 b)))), (3, .fv (.el (.sc (.fl .f32 d)))), (4, .fv (.el (.sc (.int .i64 cc)))), (5, .fv (.pt ⟨.r 0, 4, 0, 0⟩)), (10, .fv (.pt ⟨.r 1, 4, 0, 0⟩)), (13, .fv (.el (.sc (.fl .f32 rr)))), (18, .fv (.own 2)), (23, .fv (.own 3)), (145, .fv (.el (.sc (.int .i64 (ys.length : Int))))), (146, .fv (.el (.sc (.int .i64 (j : Int)))))], [some ⟨38, ⟨.line, ln⟩⟩, some ⟨38, ⟨.line, rz⟩⟩, some ⟨23, ⟨.lf, gs⟩⟩, some ⟨24, ⟨.f32, rs⟩⟩]⟩ k =
    k (.exit 6) ⟨[(1, .fv (.vw (some 1) ⟨.f32, ys⟩)), (2, .fv (.el (.sc (.fl .f32 b)))), (3, .fv (.el (.sc (.fl .f32 d)))), (4, .fv (.el (.sc (.int .i64 cc)))), (5, .fv (.pt ⟨.r 0, 4, 0, 0⟩)), (10, .fv (.pt ⟨.r 1, 4, 0, 0⟩)), (13, .fv (.el (.sc (.fl .f32 rr)))), (18, .fv (.own 2)), (23, .fv (.own 3))], [some ⟨38, ⟨.line, ln⟩⟩, some ⟨38, ⟨.line, rz⟩⟩, some ⟨23, ⟨.lf, gs⟩⟩, some ⟨24, ⟨.f32, rep (restF ys (ln.getD 0 noLine) b d) m j (rs : (List Nat))⟩⟩]⟩ := by
  intro m
  induction m with
  | zero =>
    intro j rs hs0 hlo hj
    have hy_ := Nat.le_of_ble_eq_true hy
    have l1_ := Nat.le_of_ble_eq_true l1
    have h1 : ¬ (((j : Int) < (ys.length : Int))) := by omega
    rw [st15_3]
    simp only [h1, rep, decide_false] <;> rfl
  | succ m ih =>
    intro j rs hs0 hlo hj
    have hy_ := Nat.le_of_ble_eq_true hy
    have l1_ := Nat.le_of_ble_eq_true l1
    have h1 : ((j : Int) < (ys.length : Int)) := by omega
    have lq : ln[0]? = some (ln.getD 0 noLine) := getI2 (by omega)
    have yb : (0 : Int) ≤ ((j : Nat) : Int) ∧ ((j : Nat) : Int) < (ys.length : Int) := by omega
    have yq : ys[Int.toNat ((j : Nat) : Int)]? = some (ys.getD (j) 0) := getI (by omega)
    have yp : ys[j]? = some (ys.getD (j) 0) := getI2 (by omega)
    have hrl : rs.length + 1 ≤ 1099511627776 := by omega
    have hbq : Nat.beq 24 24 = true := rfl
    have wn : IntKind.i64.wrap ((j : Int) + 1) = ((j + 1 : Nat) : Int) := wrapN (by omega) (by omega)
    rw [st15_3]
    simp only [h1, wn, lq, yb, yq, yp, hrl, hbq, and_self, decide_true, Bool.and_true, Int.le_refl]
    simp only [hrl, List.length_singleton, decide_true, Bool.and_self]
    exact ih (j + 1) (restF ys (ln.getD 0 noLine) b d j rs) (by simp [restF]; omega) (by omega) (by omega)

theorem lk15_3 : LOK T8 a15 l15 Try.f15.ntmps (loopAt Try.f15 3) := by
  intro ins outs hA s k out h
  have hA' : ([1, 2, 3, 4, 5, 10, 13, 18, 23, 145, 146], [1, 2, 3, 4, 5, 10, 13, 18, 23]) = (ins, outs) := Option.some.inj ((show a15.lp (firstRegion (loopAt Try.f15 3)) = some ([1, 2, 3, 4, 5, 10, 13, 18, 23, 145, 146], [1, 2, 3, 4, 5, 10, 13, 18, 23]) by kernel_rfl).symm.trans hA)
  cases hA'
  have hk : firstRegion (loopAt Try.f15 3) = 29 := by kernel_rfl
  rw [hk] at h
  change lp15_3 s k = some out at h
  unfold lp15_3 at h
  split at h
  · rename_i ys b d cc rr n i ln rz gs rs
    cases hg : (decide (n = (ys.length : Int)) && (decide (i = 0) && (Nat.ble ys.length 128 && (Nat.ble 1 ln.length && Nat.ble (rs.length + ys.length) big)))) with
    | false => rw [hg] at h; cases h
    | true =>
      rw [hg] at h
      simp only [Bool.and_eq_true, decide_eq_true_eq] at hg
      obtain ⟨rfl, rfl, hy, l1, gs0⟩ := hg
      refine ⟨(ys.length) + 1, ?_⟩
      have hy_ := Nat.le_of_ble_eq_true hy
      have l1_ := Nat.le_of_ble_eq_true l1
      have gs0_ := big_le gs0
      exact (ind15_3 ys b d cc rr ln rz gs hy l1 k (ys.length) 0 rs (by omega) (by omega) (by omega)).trans h
  · cases h
def gm15_4 : St → Option Nat → (Ex → St → Option Nat → R) → R := fun s M K => match s, M with
  | ⟨[(1, .fv (.vw (some 1) ⟨.f32, ys⟩)), (2, .fv (.el (.sc (.fl .f32 b)))), (3, .fv (.el (.sc (.fl .f32 d)))), (4, .fv (.el (.sc (.int .i64 cc)))), (5, .fv (.pt ⟨.r 0, 4, 0, 0⟩)), (10, .fv (.pt ⟨.r 1, 4, 0, 0⟩)), (13, .fv (.el (.sc (.fl .f32 rr)))), (25, .fv (.mv 2 e π)), (167, .fv (.el (.sc (.int .i64 n)))), (168, .fv (.el (.sc (.int .i64 i))))], [some ⟨38, ⟨.line, ln⟩⟩, some ⟨38, ⟨.line, rz⟩⟩, none, some ⟨e0, ⟨.f32, x⟩⟩, some ⟨e1, ⟨.f32, y⟩⟩, some ⟨e2, ⟨.f32, z⟩⟩]⟩, some 2 => bif (eqP π [some 3, some 4, some 5] && Nat.beq e 23) && (sq3 [x, y, z] && (decide (n = 3) && decide (i = 0))) then K (.exit 8) ⟨[(1, .fv (.vw (some 1) ⟨.f32, ys⟩)), (2, .fv (.el (.sc (.fl .f32 b)))), (3, .fv (.el (.sc (.fl .f32 d)))), (4, .fv (.el (.sc (.int .i64 cc)))), (5, .fv (.pt ⟨.r 0, 4, 0, 0⟩)), (10, .fv (.pt ⟨.r 1, 4, 0, 0⟩)), (13, .fv (.el (.sc (.fl .f32 rr)))), (25, .fv (.mv 2 23 [some 3, some 4, some 5]))], [some ⟨38, ⟨.line, ln⟩⟩, some ⟨38, ⟨.line, rz⟩⟩, none, some ⟨e0, ⟨.f32, dgR 0 x⟩⟩, some ⟨e1, ⟨.f32, dgR 1 y⟩⟩, some ⟨e2, ⟨.f32, dgR 2 z⟩⟩]⟩ (some 2) else none
  | _, _ => none
def b15_4 : Ann := { lp := look [(35, [1, 2, 3, 4, 5, 10, 13, 25, 167, 168], [1, 2, 3, 4, 5, 10, 13, 25])], rets := [], lm := fun k => bif Nat.beq k 35 then some gm15_4 else none }
theorem dg15_4 (K : Ex → St → Option Nat → R) (ys : List Nat) (b : Nat) (d : Nat) (cc : Int) (rr : Nat) (ln : List LineV) (rz : List LineV) (e0 e1 e2 x0 x1 x2 x3 y0 y1 y2 y3 z0 z1 z2 z3 : Nat) : iterN b15_4 [1, 2, 3, 4, 5, 10, 13, 25, 167, 168] [1, 2, 3, 4, 5, 10, 13, 25] (codeU T8 b15_4 noL noG Try.f15.ntmps 9 (loopAt Try.f15 4)) 4 ⟨[(1, .fv (.vw (some 1) ⟨.f32, ys⟩)), (2, .fv (.el (.sc (.fl .f32 b)))), (3, .fv (.el (.sc (.fl .f32 d)))), (4, .fv (.el (.sc (.int .i64 cc)))), (5, .fv (.pt ⟨.r 0, 4, 0, 0⟩)), (10, .fv (.pt ⟨.r 1, 4, 0, 0⟩)), (13, .fv (.el (.sc (.fl .f32 rr)))), (25, .fv (.mv 2 23 [some 3, some 4, some 5])), (167, .fv (.el (.sc (.int .i64 3)))), (168, .fv (.el (.sc (.int .i64 0))))], [some ⟨38, ⟨.line, ln⟩⟩, some ⟨38, ⟨.line, rz⟩⟩, none, some ⟨e0, ⟨.f32, [x0, x1, x2, x3]⟩⟩, some ⟨e1, ⟨.f32, [y0, y1, y2, y3]⟩⟩, some ⟨e2, ⟨.f32, [z0, z1, z2, z3]⟩⟩]⟩ (some 2) K = K (.exit 8) ⟨[(1, .fv (.vw (some 1) ⟨.f32, ys⟩)), (2, .fv (.el (.sc (.fl .f32 b)))), (3, .fv (.el (.sc (.fl .f32 d)))), (4, .fv (.el (.sc (.int .i64 cc)))), (5, .fv (.pt ⟨.r 0, 4, 0, 0⟩)), (10, .fv (.pt ⟨.r 1, 4, 0, 0⟩)), (13, .fv (.el (.sc (.fl .f32 rr)))), (25, .fv (.mv 2 23 [some 3, some 4, some 5]))], [some ⟨38, ⟨.line, ln⟩⟩, some ⟨38, ⟨.line, rz⟩⟩, none, some ⟨e0, ⟨.f32, dgR 0 [x0, x1, x2, x3]⟩⟩, some ⟨e1, ⟨.f32, dgR 1 [y0, y1, y2, y3]⟩⟩, some ⟨e2, ⟨.f32, dgR 2 [z0, z1, z2, z3]⟩⟩]⟩ (some 2) := by kernel_rfl
theorem op15_4 (K : Ex → St → Option Nat → R) (ys : List Nat) (b : Nat) (d : Nat) (cc : Int) (rr : Nat) (ln : List LineV) (rz : List LineV) (e0 e1 e2 x0 x1 x2 x3 y0 y1 y2 y3 z0 z1 z2 z3 : Nat) : codeU T8 b15_4 noL noG Try.f15.ntmps 9 (.loop (loopAt Try.f15 4)) (openS ⟨[(1, .fv (.vw (some 1) ⟨.f32, ys⟩)), (2, .fv (.el (.sc (.fl .f32 b)))), (3, .fv (.el (.sc (.fl .f32 d)))), (4, .fv (.el (.sc (.int .i64 cc)))), (5, .fv (.pt ⟨.r 0, 4, 0, 0⟩)), (10, .fv (.pt ⟨.r 1, 4, 0, 0⟩)), (13, .fv (.el (.sc (.fl .f32 rr)))), (25, .fv (.own 2)), (167, .fv (.el (.sc (.int .i64 3)))), (168, .fv (.el (.sc (.int .i64 0))))], [some ⟨38, ⟨.line, ln⟩⟩, some ⟨38, ⟨.line, rz⟩⟩, some ⟨23, ⟨.lf, [[x0, x1, x2, x3], [y0, y1, y2, y3], [z0, z1, z2, z3]]⟩⟩]⟩ 25 2 23 [e0, e1, e2] [[x0, x1, x2, x3], [y0, y1, y2, y3], [z0, z1, z2, z3]]) (some 2) K = K (.exit 8) ⟨[(1, .fv (.vw (some 1) ⟨.f32, ys⟩)), (2, .fv (.el (.sc (.fl .f32 b)))), (3, .fv (.el (.sc (.fl .f32 d)))), (4, .fv (.el (.sc (.int .i64 cc)))), (5, .fv (.pt ⟨.r 0, 4, 0, 0⟩)), (10, .fv (.pt ⟨.r 1, 4, 0, 0⟩)), (13, .fv (.el (.sc (.fl .f32 rr)))), (25, .fv (.mv 2 23 [some 3, some 4, some 5]))], [some ⟨38, ⟨.line, ln⟩⟩, some ⟨38, ⟨.line, rz⟩⟩, none, some ⟨e0, ⟨.f32, dgR 0 [x0, x1, x2, x3]⟩⟩, some ⟨e1, ⟨.f32, dgR 1 [y0, y1, y2, y3]⟩⟩, some ⟨e2, ⟨.f32, dgR 2 [z0, z1, z2, z3]⟩⟩]⟩ (some 2) := by kernel_rfl
theorem lu15_4 : LoopsU T8 b15_4 noL noG Try.f15.ntmps 9 (.loop (loopAt Try.f15 4)) := loopsU_all fun b hb => by
  have hbs : loopBodies (.loop (loopAt Try.f15 4)) = [loopAt Try.f15 4] := by kernel_rfl
  rw [hbs, List.mem_singleton] at hb
  subst hb
  intro ins outs F h1 h2 s M K out h
  have g1 : b15_4.lp (firstRegion (loopAt Try.f15 4)) = some ([1, 2, 3, 4, 5, 10, 13, 25, 167, 168], [1, 2, 3, 4, 5, 10, 13, 25]) := by kernel_rfl
  have g2 : b15_4.lm (firstRegion (loopAt Try.f15 4)) = some gm15_4 := by kernel_rfl
  rw [g1] at h1
  rw [g2] at h2
  cases h1
  cases h2
  unfold gm15_4 at h
  split at h
  · rename_i ys b d cc rr e π n i ln rz e0 x e1 y e2 z
    generalize hc : ((eqP π [some 3, some 4, some 5] && Nat.beq e 23) && (sq3 [x, y, z] && (decide (n = 3) && decide (i = 0)))) = c1 at h
    cases c1 with
    | false => cases h
    | true =>
      simp only [cond_true] at h
      simp only [Bool.and_eq_true, decide_eq_true_eq] at hc
      obtain ⟨⟨c1, c2⟩, c3, rfl, rfl⟩ := hc
      have c4 := eqP_ok c1
      have c5 := Nat.eq_of_beq_eq_true c2
      subst c4 c5
      obtain ⟨x0, x1, x2, x3, y0, y1, y2, y3, z0, z1, z2, z3, hX⟩ := sq3_lit c3
      simp only [List.cons.injEq, and_true] at hX
      obtain ⟨rfl, rfl, rfl⟩ := hX
      exact ⟨4, (dg15_4 K ys b d cc rr ln rz e0 e1 e2 x0 x1 x2 x3 y0 y1 y2 y3 z0 z1 z2 z3).trans h⟩
  · cases h
theorem lk15_4 : LOK2 Try.prog T8 a15 l15 Try.f15.ntmps (loopAt Try.f15 4) := by
  intro ins outs hA s k out h
  have hk : firstRegion (loopAt Try.f15 4) = 35 := by kernel_rfl
  rw [hk] at h
  change lp15_4 s k = some out at h
  unfold lp15_4 at h
  split at h
  · rename_i ys b d cc rr n i ln rz X
    cases hg : (sq3 X && (decide (n = 3) && decide (i = 0))) with
    | false =>
      have h' := h
      rw [show (sq3 (X : List (List Nat)) && (decide (n = 3) && decide (i = 0))) = false from hg] at h'
      cases h'
    | true =>
      rw [show (sq3 (X : List (List Nat)) && (decide (n = 3) && decide (i = 0))) = true from hg] at h
      dsimp only at h
      simp only [Bool.and_eq_true, decide_eq_true_eq] at hg
      obtain ⟨c3, rfl, rfl⟩ := hg
      obtain ⟨x0, x1, x2, x3, y0, y1, y2, y3, z0, z1, z2, z3, rfl⟩ := sq3_lit c3
      refine .inr (open_sem (A2 := b15_4) (fuel := 9) (xi := 8) (t := 25) (q := 2) (q2 := 2) (e := 23) (ms := [3, 4, 5]) (X' := diagX 0 [[x0, x1, x2, x3], [y0, y1, y2, y3], [z0, z1, z2, z3]]) (fin := fun es => ⟨[(1, .fv (.vw (some 1) ⟨.f32, ys⟩)), (2, .fv (.el (.sc (.fl .f32 b)))), (3, .fv (.el (.sc (.fl .f32 d)))), (4, .fv (.el (.sc (.int .i64 cc)))), (5, .fv (.pt ⟨.r 0, 4, 0, 0⟩)), (10, .fv (.pt ⟨.r 1, 4, 0, 0⟩)), (13, .fv (.el (.sc (.fl .f32 rr)))), (25, .fv (.mv 2 23 [some 3, some 4, some 5]))], [some ⟨38, ⟨.line, ln⟩⟩, some ⟨38, ⟨.line, rz⟩⟩, none, some ⟨es.getD 0 0, ⟨.f32, dgR 0 [x0, x1, x2, x3]⟩⟩, some ⟨es.getD 1 0, ⟨.f32, dgR 1 [y0, y1, y2, y3]⟩⟩, some ⟨es.getD 2 0, ⟨.f32, dgR 2 [z0, z1, z2, z3]⟩⟩]⟩) tok8 lu15_4 rfl rfl (Nat.le_of_ble_eq_true rfl) (fun r hr => ?_) (fun es he K => ?_) (fun es he => rfl) (fun es he j m x hm hx => ?_) rfl (fun i j m hi hj => ?_) (fun es he => rfl) (fun es he u av hu => ?_) (fun es he => rfl) h)
      · rcases r with _ | _ | _ | r
        all_goals first | rfl | exact absurd rfl hr
      · obtain ⟨e0, e1, e2, rfl⟩ := lst3 he
        exact op15_4 K ys b d cc rr ln rz e0 e1 e2 x0 x1 x2 x3 y0 y1 y2 y3 z0 z1 z2 z3
      · rcases j with _ | _ | _ | j
        all_goals simp only [List.getElem?_cons_zero, List.getElem?_cons_succ, List.getElem?_nil, diagX, Option.some.injEq] at hm hx
        all_goals first | (subst hm; subst hx; exact ⟨_, rfl⟩) | cases hm
      · rcases i with _ | _ | _ | i <;> rcases j with _ | _ | _ | j
        all_goals simp only [List.getElem?_cons_zero, List.getElem?_cons_succ, List.getElem?_nil, Option.some.injEq] at hi hj
        all_goals first | rfl | (cases hi; done) | (cases hj; done) | omega
      · simp only [lk_cons] at hu
        repeat' split at hu
        all_goals first | (cases hu; done) | skip
        all_goals (rename_i hu0; cases hu; subst hu0)
        all_goals first | exact .inl ⟨rfl, rfl⟩ | exact .inr ⟨rfl, .inl rfl⟩ | exact .inr ⟨rfl, .inr ⟨_, _, rfl, 1, rfl⟩⟩
  · cases h
theorem e15 (lp : Nat) (lh : Nat) (lw : Nat) (lk : Int) (ys : List Nat) (b : Nat) (d : Nat) (n : Int) : runFn T8 a15 l15 Try.f15 [.el (.ag [(.fl .f32 lp), (.fl .f32 lh), (.fl .f32 lw), (.int .i64 lk)]), .vw none ⟨.f32, ys⟩, .el (.sc (.fl .f32 b)), .el (.sc (.fl .f32 d)), .el (.sc (.int .i64 n))] = (match (!(okLine ((⟨lp, lh, lw, lk⟩ : LineV))) : Bool) with | true => some ⟨[.el (.ag [(.fl .f32 0), (.fl .f32 0), (.fl .f32 0), (.int .i64 0)]), .el (.sc (.fl .f32 0)), .el (.sc (.bo false))], none⟩ | false => (match (Nat.ble ys.length big : Bool) with | true => (match (!(listOk ys 1) : Bool) with | true => some ⟨[.el (.ag [(.fl .f32 0), (.fl .f32 0), (.fl .f32 0), (.int .i64 0)]), .el (.sc (.fl .f32 0)), .el (.sc (.bo false))], none⟩ | false => (match (decide (((ys.length : Int) : Int) < 3) : Bool) with | true => some ⟨[.el (.ag [(.fl .f32 0), (.fl .f32 0), (.fl .f32 0), (.int .i64 0)]), .el (.sc (.fl .f32 0)), .el (.sc (.bo false))], none⟩ | false => (match (!(fin b) : Bool) with | true => some ⟨[.el (.ag [(.fl .f32 0), (.fl .f32 0), (.fl .f32 0), (.int .i64 0)]), .el (.sc (.fl .f32 0)), .el (.sc (.bo false))], none⟩ | false => (match (!(fin d) : Bool) with | true => some ⟨[.el (.ag [(.fl .f32 0), (.fl .f32 0), (.fl .f32 0), (.int .i64 0)]), .el (.sc (.fl .f32 0)), .el (.sc (.bo false))], none⟩ | false => (match (!(within n 1 16) : Bool) with | true => some ⟨[.el (.ag [(.fl .f32 0), (.fl .f32 0), (.fl .f32 0), (.int .i64 0)]), .el (.sc (.fl .f32 0)), .el (.sc (.bo false))], none⟩ | false => (match (Nat.ble ([(⟨lp, lh, lw, lk⟩ : LineV)]).length big && Nat.ble ys.length big : Bool) with | true => (match (spAll ([(⟨lp, lh, lw, lk⟩ : LineV)]) b d ys.length : Bool) with | true => (match (!(fin (restSum ([(⟨lp, lh, lw, lk⟩ : LineV)]) ys b d)) : Bool) with | true => some ⟨[.el (.ag [(.fl .f32 0), (.fl .f32 0), (.fl .f32 0), (.int .i64 0)]), .el (.sc (.fl .f32 0)), .el (.sc (.bo false))], none⟩ | false => (match ((decide (0 ≤ n ∧ n ≤ 16) && (Nat.ble 1 ([(⟨lp, lh, lw, lk⟩ : LineV)] : List LineV).length && (Nat.ble 1 ([(⟨0, 0, 0, 0⟩ : LineV)] : List LineV).length && Nat.ble ys.length 128))) : Bool) with | true => (match fitRun (stepS ys b d) (n.toNat) (([(⟨lp, lh, lw, lk⟩ : LineV)] : List LineV).getD 0 noLine) (restSum ([(⟨lp, lh, lw, lk⟩ : LineV)]) ys b d) with | some s => (match (([(⟨lp, lh, lw, lk⟩ : LineV)] : List LineV).set 0 s.1 : List LineV)[0]? with | some x1 => some ⟨[.el (.ag [(.fl .f32 x1.p), (.fl .f32 x1.h), (.fl .f32 x1.w), (.int .i64 x1.k)]), .el (.sc (.fl .f32 s.2)), .el (.sc (.bo true))], none⟩ | none => none) | none => (match (([(⟨0, 0, 0, 0⟩ : LineV)] : List LineV).set 0 (⟨0, 0, 0, 0⟩ : LineV) : List LineV)[0]? with | some x2 => some ⟨[.el (.ag [(.fl .f32 x2.p), (.fl .f32 x2.h), (.fl .f32 x2.w), (.int .i64 x2.k)]), .el (.sc (.fl .f32 0)), .el (.sc (.bo false))], none⟩ | none => none)) | false => none)) | false => some ⟨[.el (.ag [(.fl .f32 0), (.fl .f32 0), (.fl .f32 0), (.int .i64 0)]), .el (.sc (.fl .f32 0)), .el (.sc (.bo false))], none⟩) | false => none)))))) | false => none)) := by kernel_rfl
theorem s15 (lp : Nat) (lh : Nat) (lw : Nat) (lk : Int) (ys : List Nat) (b : Nat) (d : Nat) (n : Int) (hg : (Nat.ble ys.length big) = true) : runFn T8 a15 l15 Try.f15 [.el (.ag [(.fl .f32 lp), (.fl .f32 lh), (.fl .f32 lw), (.int .i64 lk)]), .vw none ⟨.f32, ys⟩, .el (.sc (.fl .f32 b)), .el (.sc (.fl .f32 d)), .el (.sc (.int .i64 n))] = (match flS ((⟨lp, lh, lw, lk⟩ : LineV)) ys b d n with | some s_9 => some ⟨[.el (.ag [(.fl .f32 s_9.1.p), (.fl .f32 s_9.1.h), (.fl .f32 s_9.1.w), (.int .i64 s_9.1.k)]), .el (.sc (.fl .f32 s_9.2)), .el (.sc (.bo true))], none⟩ | none => some ⟨[.el (.ag [(.fl .f32 0), (.fl .f32 0), (.fl .f32 0), (.int .i64 0)]), .el (.sc (.fl .f32 0)), .el (.sc (.bo false))], none⟩) := by
  rw [e15]
  cases o1 : okLine (⟨lp, lh, lw, lk⟩ : LineV) with
  | false =>
    have : flS (⟨lp, lh, lw, lk⟩ : LineV) ys b d n = none := by unfold flS flIn; rw [o1]; rfl
    rw [this]
    rfl
  | true =>
  cases o2 : listOk ys 1 with
  | false =>
    have : listOk ys 3 = false := by
      cases h : listOk ys 3 with
      | false => rfl
      | true =>
        unfold listOk at h o2
        simp only [Bool.and_eq_true, decide_eq_true_eq] at h
        rw [h.2.2] at o2
        have e1 : decide ((ys.length : Int) ≥ 1) = true := decide_eq_true (by omega)
        have e2 : decide (ys.length ≤ 128) = true := decide_eq_true (by omega)
        rw [e1, e2] at o2
        cases o2
    have : flS (⟨lp, lh, lw, lk⟩ : LineV) ys b d n = none := by unfold flS flIn; rw [this, Bool.false_and, Bool.and_false]; rfl
    rw [this]
    simp [hg]
  | true =>
  have hy : ys.length ≤ 128 ∧ ys.all fin = true := by
    unfold listOk at o2
    simp only [Bool.and_eq_true, decide_eq_true_eq] at o2
    exact o2.2
  have o3 : listOk ys 3 = decide (¬ ((ys.length : Int) < 3)) := by
    unfold listOk
    rw [hy.2]
    have e2 : decide (ys.length ≤ 128) = true := decide_eq_true hy.1
    rw [e2]
    by_cases h : (ys.length : Int) < 3
    · simp [h] <;> omega
    · simp [h] <;> omega
  have hy8 : Nat.ble ys.length 128 = true := Nat.ble_eq_true_of_le hy.1
  have lo : linesOk [(⟨lp, lh, lw, lk⟩ : LineV)] = true := by simp [linesOk, o1]
  have hro : restOk [(⟨lp, lh, lw, lk⟩ : LineV)] ys b d = (fin b && (fin d && (spAll [(⟨lp, lh, lw, lk⟩ : LineV)] b d ys.length && fin (restSum [(⟨lp, lh, lw, lk⟩ : LineV)] ys b d)))) := by
    unfold restOk
    rw [lo, o2]
    rfl
  have hv : flS (⟨lp, lh, lw, lk⟩ : LineV) ys b d n = bif (decide (¬ ((ys.length : Int) < 3)) && (fin b && (fin d && within n 1 16))) && (fin b && (fin d && (spAll [(⟨lp, lh, lw, lk⟩ : LineV)] b d ys.length && fin (restSum [(⟨lp, lh, lw, lk⟩ : LineV)] ys b d)))) then fitRun (stepS ys b d) n.toNat (⟨lp, lh, lw, lk⟩ : LineV) (restSum [(⟨lp, lh, lw, lk⟩ : LineV)] ys b d) else none := by
    unfold flS flIn
    rw [o1, o3, hro]
    rfl
  rw [hv, hg]
  have g1 : Nat.ble [(⟨lp, lh, lw, lk⟩ : LineV)].length big = true := rfl
  have g2 : Nat.ble 1 [(⟨lp, lh, lw, lk⟩ : LineV)].length = true := rfl
  have g3 : Nat.ble 1 big = true := rfl
  by_cases h3 : (ys.length : Int) < 3
  · simp [h3]
  · cases hb : fin b with
    | false => simp [h3]
    | true =>
    cases hd : fin d with
    | false => simp [h3]
    | true =>
    cases hw : within n 1 16 with
    | false => simp [h3]
    | true =>
    have hn : 0 ≤ n ∧ n ≤ 16 := by
      unfold within at hw
      simp only [Bool.and_eq_true, decide_eq_true_eq] at hw
      omega
    cases hs : spAll [(⟨lp, lh, lw, lk⟩ : LineV)] b d ys.length with
    | false => simp [h3, g1, g3]
    | true =>
    cases hf : fin (restSum [(⟨lp, lh, lw, lk⟩ : LineV)] ys b d) with
    | false => simp [h3, g1, g3]
    | true =>
      have e0 : [(⟨lp, lh, lw, lk⟩ : LineV)].getD 0 noLine = (⟨lp, lh, lw, lk⟩ : LineV) := rfl
      have z1 : Nat.ble 1 [(⟨0, 0, 0, 0⟩ : LineV)].length = true := rfl
      simp only [h3, g1, g2, hn, hy8, e0, z1, not_false_eq_true, decide_false, decide_true, and_self, Bool.not_true, Bool.and_self, cond_true]
      cases fitRun (stepS ys b d) n.toNat (⟨lp, lh, lw, lk⟩ : LineV) (restSum [(⟨lp, lh, lw, lk⟩ : LineV)] ys b d) <;> rfl
theorem c15 (lp : Nat) (lh : Nat) (lw : Nat) (lk : Int) (ys : List Nat) (b : Nat) (d : Nat) (n : Int) (k : List RV → R) (out : Out) (h : (match (Nat.ble ys.length big : Bool) with | true => (match flS ((⟨lp, lh, lw, lk⟩ : LineV)) ys b d n with | some s_8 => k [.el (.ag [(.fl .f32 s_8.1.p), (.fl .f32 s_8.1.h), (.fl .f32 s_8.1.w), (.int .i64 s_8.1.k)]), .el (.sc (.fl .f32 s_8.2)), .el (.sc (.bo true))] | none => k [.el (.ag [(.fl .f32 0), (.fl .f32 0), (.fl .f32 0), (.int .i64 0)]), .el (.sc (.fl .f32 0)), .el (.sc (.bo false))]) | false => none) = some out) : ∃ rs, Real Try.prog 15 ∧ COK Try.prog 15 [.el (.ag [(.fl .f32 lp), (.fl .f32 lh), (.fl .f32 lw), (.int .i64 lk)]), .vw none ⟨.f32, ys⟩, .el (.sc (.fl .f32 b)), .el (.sc (.fl .f32 d)), .el (.sc (.int .i64 n))] rs ∧ k rs = some out := by
  cases g0 : (Nat.ble ys.length big : Bool) with
  | true =>
    rw [g0] at h
    cases g1 : (flS ((⟨lp, lh, lw, lk⟩ : LineV)) ys b d n) with
    | some s_8 =>
      rw [g1] at h
      exact ⟨_, real Try.func15 (by kernel_rfl), fn_ok2 tok8 (A := a15) (L := l15) (r := none) Try.func15 (by kernel_rfl) (by kernel_rfl) (loopsB5 (by kernel_rfl) lk15.two lk15_1.two lk15_2.two lk15_3.two lk15_4) (by rw [s15 _ _ _ _ _ _ _ _ g0, g1]), h⟩
    | none =>
      rw [g1] at h
      exact ⟨_, real Try.func15 (by kernel_rfl), fn_ok2 tok8 (A := a15) (L := l15) (r := none) Try.func15 (by kernel_rfl) (by kernel_rfl) (loopsB5 (by kernel_rfl) lk15.two lk15_1.two lk15_2.two lk15_3.two lk15_4) (by rw [s15 _ _ _ _ _ _ _ _ g0, g1]), h⟩
  | false =>
    rw [g0] at h
    cases h

/-! impl.changesOf -/
def a42 : Ann := ann [(8, [1, 2, 3, 10, 13, 14, 74, 75, 76], [1, 10, 14]), (14, [1, 2, 3, 10, 13, 14, 16, 17, 74, 75, 76, 96, 97], [1, 2, 3, 10, 13, 14, 17, 74, 75, 76]), (22, [10, 14, 20, 121, 122, 123], [14, 20]), (28, [23, 142, 143], [23])] [8, 9] 0
def lp42 : St → (Ex → St → R) → R := fun s k => match s with
  | ⟨[(1, .fv (.vw (some 1) ⟨.f32, ys⟩)), (2, .fv (.el (.sc (.fl .f32 b)))), (3, .fv (.el (.sc (.fl .f32 d)))), (10, .fv (.own 0)), (13, .fv (.own 1)), (14, .fv (.own 2)), (74, .fv (.own 3)), (75, .fv (.el (.sc (.int .i64 n)))), (76, .fv (.el (.sc (.int .i64 i))))], [some ⟨24, ⟨.f32, now⟩⟩, some ⟨38, ⟨.line, us⟩⟩, some ⟨23, ⟨.lf, gs⟩⟩, some ⟨24, ⟨.f32, ss⟩⟩]⟩ => (match ((decide (n = ((ss : List Nat).length : Int)) && (decide (i = 0) && (Nat.ble (ss : List Nat).length big && (Nat.ble (ss : List Nat).length (us : List LineV).length && (Nat.beq (now : List Nat).length ys.length && (Nat.ble ys.length 128 && Nat.ble ((gs : List ((List Nat))).length + (ss : List Nat).length) big)))))) : Bool) with | true => (match repE (chF (us : List LineV) (ss : List Nat) b d ys.length (now : List Nat)) ((ss : List Nat).length) 0 ((gs : List ((List Nat))) : (List (List Nat))) with | some s => k (.exit 0) ⟨[(1, .fv (.vw (some 1) ⟨.f32, ys⟩)), (10, .fv (.own 0)), (14, .fv (.own 1))], [some ⟨24, ⟨.f32, (now : List Nat)⟩⟩, some ⟨23, ⟨.lf, s⟩⟩]⟩ | none => k .ret ⟨[(8, .fv (.nil)), (9, .fv (.el (.sc (.bo false))))], []⟩) | false => none)
  | _ => none
def lp42_1 : St → (Ex → St → R) → R := fun s k => match s with
  | ⟨[(1, .fv (.vw (some 1) ⟨.f32, ys⟩)), (2, .fv (.el (.sc (.fl .f32 b)))), (3, .fv (.el (.sc (.fl .f32 d)))), (10, .fv (.own 0)), (13, .fv (.own 1)), (14, .fv (.own 2)), (16, .fv (.el (.sc (.fl .f32 s)))), (17, .fv (.own 3)), (74, .fv (.own 4)), (75, .fv (.el (.sc (.int .i64 n)))), (76, .fv (.el (.sc (.int .i64 i)))), (96, .fv (.el (.sc (.int .i64 n2)))), (97, .fv (.el (.sc (.int .i64 q))))], [some ⟨24, ⟨.f32, now⟩⟩, some ⟨38, ⟨.line, us⟩⟩, some ⟨23, ⟨.lf, gs⟩⟩, some ⟨24, ⟨.f32, zs⟩⟩, some ⟨24, ⟨.f32, ss⟩⟩]⟩ => (match ((decide (n2 = ((now : List Nat).length : Int)) && (decide (q = 0) && (Nat.ble (now : List Nat).length big && Nat.beq (zs : List Nat).length (now : List Nat).length))) : Bool) with | true => k (.exit 2) ⟨[(1, .fv (.vw (some 1) ⟨.f32, ys⟩)), (2, .fv (.el (.sc (.fl .f32 b)))), (3, .fv (.el (.sc (.fl .f32 d)))), (10, .fv (.own 0)), (13, .fv (.own 1)), (14, .fv (.own 2)), (17, .fv (.own 3)), (74, .fv (.own 4)), (75, .fv (.el (.sc (.int .i64 n)))), (76, .fv (.el (.sc (.int .i64 i))))], [some ⟨24, ⟨.f32, (now : List Nat)⟩⟩, some ⟨38, ⟨.line, (us : List LineV)⟩⟩, some ⟨23, ⟨.lf, (gs : List ((List Nat)))⟩⟩, some ⟨24, ⟨.f32, rep (divF (now : List Nat) s) ((now : List Nat).length) 0 ((zs : List Nat) : (List Nat))⟩⟩, some ⟨24, ⟨.f32, (ss : List Nat)⟩⟩]⟩ | false => none)
  | _ => none
def lp42_2 : St → (Ex → St → R) → R := fun s k => match s with
  | ⟨[(10, .fv (.own 0)), (14, .fv (.own 1)), (20, .fv (.own 2)), (121, .fv (.vw (some 1) ⟨.f32, ys⟩)), (122, .fv (.el (.sc (.int .i64 n)))), (123, .fv (.el (.sc (.int .i64 i))))], [some ⟨24, ⟨.f32, now⟩⟩, some ⟨23, ⟨.lf, gs⟩⟩, some ⟨24, ⟨.f32, rs⟩⟩]⟩ => (match ((decide (n = (ys.length : Int)) && (decide (i = 0) && (Nat.ble ys.length big && (Nat.ble ys.length (now : List Nat).length && Nat.ble ((rs : List Nat).length + ys.length) big)))) : Bool) with | true => k (.exit 4) ⟨[(14, .fv (.own 0)), (20, .fv (.own 1))], [some ⟨23, ⟨.lf, (gs : List ((List Nat)))⟩⟩, some ⟨24, ⟨.f32, rep (subF ys (now : List Nat)) (ys.length) 0 ((rs : List Nat) : (List Nat))⟩⟩]⟩ | false => none)
  | _ => none
def lp42_3 : St → (Ex → St → R) → R := fun s k => match s with
  | ⟨[(23, .fv (.own 0)), (142, .fv (.el (.sc (.int .i64 n)))), (143, .fv (.el (.sc (.int .i64 i))))], [some ⟨23, ⟨.lf, X⟩⟩]⟩ => (match (sq3 ((X : List (List Nat))) && (decide (n = 3) && decide (i = 0)) : Bool) with | true => k (.exit 6) ⟨[(23, .fv (.own 0))], [some ⟨23, ⟨.lf, diagX 0 (X : List (List Nat))⟩⟩, none, none, none]⟩ | false => none)
  | _ => none
def l42 : Loops := fun key s k => bif Nat.beq key 8 then lp42 s k else bif Nat.beq key 14 then lp42_1 s k else bif Nat.beq key 22 then lp42_2 s k else bif Nat.beq key 28 then lp42_3 s k else none
theorem st42 (ys : List Nat) (b : Nat) (d : Nat) (n : Int) (i : Int) (now : List Nat) (us : List LineV) (gs : List ((List Nat))) (ss : List Nat) (m : Nat) (k : Ex → St → R) : iterK a42 [1, 2, 3, 10, 13, 14, 74, 75, 76] [1, 10, 14] (codeK T8 a42 l42 Try.f42.ntmps (loopAt Try.f42 0)) (m + 1) ⟨[(1, .fv (.vw (some 1) ⟨.f32, ys⟩)), (2, .fv (.el (.sc (.fl .f32 b)))), (3, .fv (.el (.sc (.fl .f32 d)))), (10, .fv (.own 0)), (13, .fv (.own 1)), (14, .fv (.own 2)), (74, .fv (.own 3)), (75, .fv (.el (.sc (.int .i64 n)))), (76, .fv (.el (.sc (.int .i64 i))))], [some ⟨24, ⟨.f32, now⟩⟩, some ⟨38, ⟨.line, us⟩⟩, some ⟨23, ⟨.lf, gs⟩⟩, some ⟨24, ⟨.f32, ss⟩⟩]⟩ k = (match (decide ((i : Int) < n) : Bool) with | true => (match (decide (0 ≤ (i : Int) ∧ (i : Int) < (ss.length : Int)) && true : Bool) with | true => (match (ss : List Nat)[Int.toNat i]? with | some x1 => (match (decide (0 ≤ (i : Int) ∧ (i : Int) < (us.length : Int)) && true : Bool) with | true => (match (us : List LineV)[Int.toNat i]? with | some x2 => (match (decide ((ys.length : Int) ≤ 128) : Bool) with | true => (match (!(rowAll x2 b d (((ys.length : Int)).toNat)) : Bool) with | true => k .ret ⟨[(8, .fv (.nil)), (9, .fv (.el (.sc (.bo false))))], []⟩ | false => (match ((decide ((((orNil (rowAll x2 b d (((ys.length : Int)).toNat)) (rowV x2 b d (((ys.length : Int)).toNat))).length : Int)) = ((now : List Nat).length : Int)) && (decide (0 = 0) && (Nat.ble (now : List Nat).length big && Nat.beq (orNil (rowAll x2 b d (((ys.length : Int)).toNat)) (rowV x2 b d (((ys.length : Int)).toNat)) : List Nat).length (now : List Nat).length))) : Bool) with | true => (match (decide (((gs : List ((List Nat))) : List (List Nat)).length + ([rep (divF (now : List Nat) x1) ((now : List Nat).length) 0 ((orNil (rowAll x2 b d (((ys.length : Int)).toNat)) (rowV x2 b d (((ys.length : Int)).toNat)) : List Nat) : (List Nat))] : List (List Nat)).length ≤ 1099511627776) : Bool) with | true => iterK a42 [1, 2, 3, 10, 13, 14, 74, 75, 76] [1, 10, 14] (codeK T8 a42 l42 Try.f42.ntmps (loopAt Try.f42 0)) m ⟨[(1, .fv (.vw (some 1) ⟨.f32, ys⟩)), (2, .fv (.el (.sc (.fl .f32 b)))), (3, .fv (.el (.sc (.fl .f32 d)))), (10, .fv (.own 0)), (13, .fv (.own 1)), (14, .fv (.own 2)), (74, .fv (.own 3)), (75, .fv (.el (.sc (.int .i64 n)))), (76, .fv (.el (.sc (.int .i64 (IntKind.i64.wrap (i + 1))))))], [some ⟨24, ⟨.f32, (now : List Nat)⟩⟩, some ⟨38, ⟨.line, (us : List LineV)⟩⟩, some ⟨23, ⟨.lf, ((gs : List ((List Nat))) : List (List Nat)) ++ ([rep (divF (now : List Nat) x1) ((now : List Nat).length) 0 ((orNil (rowAll x2 b d (((ys.length : Int)).toNat)) (rowV x2 b d (((ys.length : Int)).toNat)) : List Nat) : (List Nat))])⟩⟩, some ⟨24, ⟨.f32, (ss : List Nat)⟩⟩]⟩ k | false => none) | false => none)) | false => none) | none => none) | false => none) | none => none) | false => none) | false => k (.exit 0) ⟨[(1, .fv (.vw (some 1) ⟨.f32, ys⟩)), (10, .fv (.own 0)), (14, .fv (.own 1))], [some ⟨24, ⟨.f32, now⟩⟩, some ⟨23, ⟨.lf, gs⟩⟩]⟩) := by kernel_rfl
theorem ind42 (ys : List Nat) (b : Nat) (d : Nat) (now : List Nat) (us : List LineV) (ss : List Nat) (hx : (Nat.ble ss.length big) = true) (hu : (Nat.ble ss.length us.length) = true) (hn : (Nat.beq now.length ys.length) = true) (hy : (Nat.ble ys.length 128) = true) (k : Ex → St → R) : ∀ (m j : Nat) (gs : List (List Nat)), gs.length + m ≤ 1099511627776 → 0 ≤ j → j + m = ss.length → iterK a42 [1, 2, 3, 10, 13, 14, 74, 75, 76] [1, 10, 14] (codeK T8 a42 l42 Try.f42.ntmps (loopAt Try.f42 0)) (m + 1) ⟨[(1, .fv (.vw (some 1) ⟨.f32, ys⟩)), (2, .fv (.el (.sc (.fl .f32 b)))), (3, .fv (.el (.sc (.fl .f32 d)))), (10, .fv (.own 0)), (13, .fv (.own 1)), (14, .fv (.own 2)), (74, .fv (.own 3)), (75, .fv (.el (.sc (.int .i64 (ss.length : Int))))), (76, .fv (.el (.sc (.int .i64 (j : Int)))))], [some ⟨24, ⟨.f32, now⟩⟩, some ⟨38, ⟨.line, us⟩⟩, some ⟨23, ⟨.lf, gs⟩⟩, some ⟨24, ⟨.f32, ss⟩⟩]⟩ k =
    (match repE (chF us ss b d ys.length now) m j (gs : (List (List Nat))) with
    | some s => k (.exit 0) ⟨[(1, .fv (.vw (some 1) ⟨.f32, ys⟩)), (10, .fv (.own 0)), (14, .fv (.own 1))], [some ⟨24, ⟨.f32, now⟩⟩, some ⟨23, ⟨.lf, s⟩⟩]⟩
    | none => k .ret ⟨[(8, .fv (.nil)), (9, .fv (.el (.sc (.bo false))))], []⟩) := by
  intro m
  induction m with
  | zero =>
    intro j gs hs0 hlo hj
    have hx_ := big_le hx
    have hu_ := Nat.le_of_ble_eq_true hu
    have hy_ := Nat.le_of_ble_eq_true hy
    have h1 : ¬ (((j : Int) < (ss.length : Int))) := by omega
    rw [st42]
    simp only [h1, repE, decide_false] <;> rfl
  | succ m ih =>
    intro j gs hs0 hlo hj
    have hx_ := big_le hx
    have hu_ := Nat.le_of_ble_eq_true hu
    have hy_ := Nat.le_of_ble_eq_true hy
    have h1 : ((j : Int) < (ss.length : Int)) := by omega
    have sb : (0 : Int) ≤ ((j : Nat) : Int) ∧ ((j : Nat) : Int) < (ss.length : Int) := by omega
    have sq : ss[Int.toNat ((j : Nat) : Int)]? = some (ss.getD (j) 0) := getI (by omega)
    have sp : ss[j]? = some (ss.getD (j) 0) := getI2 (by omega)
    have ul : j < us.length := by omega
    have ub : (0 : Int) ≤ ((j : Nat) : Int) ∧ ((j : Nat) : Int) < (us.length : Int) := by omega
    have uq : us[Int.toNat ((j : Nat) : Int)]? = some (us.getD (j) noLine) := getI (by omega)
    have up : us[j]? = some (us.getD (j) noLine) := getI2 (by omega)
    have hgl : gs.length + 1 ≤ 1099511627776 := by omega
    have hbq : Nat.beq 24 24 = true := rfl
    have wn : IntKind.i64.wrap ((j : Int) + 1) = ((j + 1 : Nat) : Int) := wrapN (by omega) (by omega)
    rw [st42]
    simp only [h1, wn, sb, sq, sp, ul, ub, uq, up, hgl, hbq, and_self, decide_true, Bool.and_true, Int.le_refl]
    have hy2 : decide ((ys.length : Int) ≤ 128) = true := decide_eq_true (by omega)
    have hn2 := Nat.eq_of_beq_eq_true hn
    have hn3 : Nat.ble now.length big = true := big_of (by omega)
    rw [repE_succ]
    have e5 : chF us ss b d ys.length now j gs = bif rowAll (us.getD j noLine) b d ys.length then some (gs ++ [divR now (ss.getD j 0) (rowV (us.getD j noLine) b d ys.length)]) else none := rfl
    rw [e5]
    simp only [hy2, Int.toNat_natCast]
    rcases Bool.eq_false_or_eq_true (rowAll (us.getD j noLine) b d ys.length) with hf | hf
    case inr => simp only [hf, Bool.not_false, cond_false]
    case inl =>
      have hlr : (rowV (us.getD j noLine) b d ys.length).length = now.length := by rw [hn2, rowV_len]
      have q1 : decide (((rowV (us.getD j noLine) b d ys.length).length : Int) = (now.length : Int)) = true := decide_eq_true (by omega)
      have q2 : Nat.beq (rowV (us.getD j noLine) b d ys.length).length now.length = true := by rw [hlr]; exact Nat.beq_refl _
      have q3 : rep (divF now (ss.getD j 0)) now.length 0 (rowV (us.getD j noLine) b d ys.length) = divR now (ss.getD j 0) (rowV (us.getD j noLine) b d ys.length) := rfl
      simp only [hf, orNil, q1, q2, q3, hn3, hgl, List.length_singleton, decide_true, Bool.not_true, Bool.and_self, Bool.true_and, cond_true]
      exact ih (j + 1) (gs ++ [divR now (ss.getD j 0) (rowV (us.getD j noLine) b d ys.length)]) (by simp; omega) (by omega) (by omega)

theorem lk42 : LOK T8 a42 l42 Try.f42.ntmps (loopAt Try.f42 0) := by
  intro ins outs hA s k out h
  have hA' : ([1, 2, 3, 10, 13, 14, 74, 75, 76], [1, 10, 14]) = (ins, outs) := Option.some.inj ((show a42.lp (firstRegion (loopAt Try.f42 0)) = some ([1, 2, 3, 10, 13, 14, 74, 75, 76], [1, 10, 14]) by kernel_rfl).symm.trans hA)
  cases hA'
  have hk : firstRegion (loopAt Try.f42 0) = 8 := by kernel_rfl
  rw [hk] at h
  change lp42 s k = some out at h
  unfold lp42 at h
  split at h
  · rename_i ys b d n i now us gs ss
    cases hg : (decide (n = (ss.length : Int)) && (decide (i = 0) && (Nat.ble ss.length big && (Nat.ble ss.length us.length && (Nat.beq now.length ys.length && (Nat.ble ys.length 128 && Nat.ble (gs.length + ss.length) big)))))) with
    | false => rw [hg] at h; cases h
    | true =>
      rw [hg] at h
      simp only [Bool.and_eq_true, decide_eq_true_eq] at hg
      obtain ⟨rfl, rfl, hx, hu, hn, hy, gs0⟩ := hg
      refine ⟨(ss.length) + 1, ?_⟩
      have hx_ := big_le hx
      have hu_ := Nat.le_of_ble_eq_true hu
      have hy_ := Nat.le_of_ble_eq_true hy
      have gs0_ := big_le gs0
      exact (ind42 ys b d now us ss hx hu hn hy k (ss.length) 0 gs (by omega) (by omega) (by omega)).trans h
  · cases h
theorem st42_1 (ys : List Nat) (b : Nat) (d : Nat) (s : Nat) (n : Int) (i : Int) (n2 : Int) (q : Int) (now : List Nat) (us : List LineV) (gs : List ((List Nat))) (zs : List Nat) (ss : List Nat) (m : Nat) (k : Ex → St → R) : iterK a42 [1, 2, 3, 10, 13, 14, 16, 17, 74, 75, 76, 96, 97] [1, 2, 3, 10, 13, 14, 17, 74, 75, 76] (codeK T8 a42 l42 Try.f42.ntmps (loopAt Try.f42 1)) (m + 1) ⟨[(1, .fv (.vw (some 1) ⟨.f32, ys⟩)), (2, .fv (.el (.sc (.fl .f32 b)))), (3, .fv (.el (.sc (.fl .f32 d)))), (10, .fv (.own 0)), (13, .fv (.own 1)), (14, .fv (.own 2)), (16, .fv (.el (.sc (.fl .f32 s)))), (17, .fv (.own 3)), (74, .fv (.own 4)), (75, .fv (.el (.sc (.int .i64 n)))), (76, .fv (.el (.sc (.int .i64 i)))), (96, .fv (.el (.sc (.int .i64 n2)))), (97, .fv (.el (.sc (.int .i64 q))))], [some ⟨24, ⟨.f32, now⟩⟩, some ⟨38, ⟨.line, us⟩⟩, some ⟨23, ⟨.lf, gs⟩⟩, some ⟨24, ⟨.f32, zs⟩⟩, some ⟨24, ⟨.f32, ss⟩⟩]⟩ k = (match (decide ((q : Int) < n2) : Bool) with | true => (match (decide (0 ≤ (q : Int) ∧ (q : Int) < (zs.length : Int)) && true : Bool) with | true => (match (zs : List Nat)[Int.toNat q]? with | some x1 => (match (decide (0 ≤ (q : Int) ∧ (q : Int) < (now.length : Int)) && true : Bool) with | true => (match (now : List Nat)[Int.toNat q]? with | some x2 => (match (decide (0 ≤ (q : Int) ∧ (q : Int) < (zs.length : Int)) && true : Bool) with | true => (match (zs : List Nat)[Int.toNat q]? with | some x3 => iterK a42 [1, 2, 3, 10, 13, 14, 16, 17, 74, 75, 76, 96, 97] [1, 2, 3, 10, 13, 14, 17, 74, 75, 76] (codeK T8 a42 l42 Try.f42.ntmps (loopAt Try.f42 1)) m ⟨[(1, .fv (.vw (some 1) ⟨.f32, ys⟩)), (2, .fv (.el (.sc (.fl .f32 b)))), (3, .fv (.el (.sc (.fl .f32 d)))), (10, .fv (.own 0)), (13, .fv (.own 1)), (14, .fv (.own 2)), (16, .fv (.el (.sc (.fl .f32 s)))), (17, .fv (.own 3)), (74, .fv (.own 4)), (75, .fv (.el (.sc (.int .i64 n)))), (76, .fv (.el (.sc (.int .i64 i)))), (96, .fv (.el (.sc (.int .i64 n2)))), (97, .fv (.el (.sc (.int .i64 (IntKind.i64.wrap (q + 1))))))], [some ⟨24, ⟨.f32, now⟩⟩, some ⟨38, ⟨.line, us⟩⟩, some ⟨23, ⟨.lf, gs⟩⟩, some ⟨24, ⟨.f32, (zs : List Nat).set (Int.toNat q) (fop .quo .f32 (fop .sub .f32 x1 x2) s)⟩⟩, some ⟨24, ⟨.f32, ss⟩⟩]⟩ k | none => none) | false => none) | none => none) | false => none) | none => none) | false => none) | false => k (.exit 2) ⟨[(1, .fv (.vw (some 1) ⟨.f32, ys⟩)), (2, .fv (.el (.sc (.fl .f32 b)))), (3, .fv (.el (.sc (.fl .f32 d)))), (10, .fv (.own 0)), (13, .fv (.own 1)), (14, .fv (.own 2)), (17, .fv (.own 3)), (74, .fv (.own 4)), (75, .fv (.el (.sc (.int .i64 n)))), (76, .fv (.el (.sc (.int .i64 i))))], [some ⟨24, ⟨.f32, now⟩⟩, some ⟨38, ⟨.line, us⟩⟩, some ⟨23, ⟨.lf, gs⟩⟩, some ⟨24, ⟨.f32, zs⟩⟩, some ⟨24, ⟨.f32, ss⟩⟩]⟩) := by kernel_rfl
theorem ind42_1 (ys : List Nat) (b : Nat) (d : Nat) (s : Nat) (n : Int) (i : Int) (now : List Nat) (us : List LineV) (gs : List ((List Nat))) (ss : List Nat) (hx : (Nat.ble now.length big) = true) (k : Ex → St → R) : ∀ (m j : Nat) (zs : List Nat), zs.length = now.length → 0 ≤ j → j + m = now.length → iterK a42 [1, 2, 3, 10, 13, 14, 16, 17, 74, 75, 76, 96, 97] [1, 2, 3, 10, 13, 14, 17, 74, 75, 76] (codeK T8 a42 l42 Try.f42.ntmps (loopAt Try.f42 1)) (m + 1) ⟨[(1, .fv (.vw (some 1) ⟨.f32, ys⟩)), (2, .fv (.el (.sc (.fl .f32 b)))), (3, .fv (.el (.sc (.fl .f32 d)))), (10, .fv (.own 0)), (13, .fv (.own 1)), (14, .fv (.own 2)), (16, .fv (.el (.sc (.fl .f32 s)))), (17, .fv (.own 3)), (74, .fv (.own 4)), (75, .fv (.el (.sc (.int .i64 n)))), (76, .fv (.el (.sc (.int .i64 i)))), (96, .fv (.el (.sc (.int .i64 (now.length : Int))))), (97, .fv (.el (.sc (.int .i64 (j : Int)))))], [some ⟨24, ⟨.f32, now⟩⟩, some ⟨38, ⟨.line, us⟩⟩, some ⟨23, ⟨.lf, gs⟩⟩, some ⟨24, ⟨.f32, zs⟩⟩, some ⟨24, ⟨.f32, ss⟩⟩]⟩ k =
    k (.exit 2) ⟨[(1, .fv (.vw (some 1) ⟨.f32, ys⟩)), (2, .fv (.el (.sc (.fl .f32 b)))), (3, .fv (.el (.sc (.fl .f32 d)))), (10, .fv (.own 0)), (13, .fv (.own 1)), (14, .fv (.own 2)), (17, .fv (.own 3)), (74, .fv (.own 4)), (75, .fv (.el (.sc (.int .i64 n)))), (76, .fv (.el (.sc (.int .i64 i))))], [some ⟨24, ⟨.f32, now⟩⟩, some ⟨38, ⟨.line, us⟩⟩, some ⟨23, ⟨.lf, gs⟩⟩, some ⟨24, ⟨.f32, rep (divF now s) m j (zs : (List Nat))⟩⟩, some ⟨24, ⟨.f32, ss⟩⟩]⟩ := by
  intro m
  induction m with
  | zero =>
    intro j zs hs0 hlo hj
    have hx_ := big_le hx
    have h1 : ¬ (((j : Int) < (now.length : Int))) := by omega
    rw [st42_1]
    simp only [h1, rep, decide_false] <;> rfl
  | succ m ih =>
    intro j zs hs0 hlo hj
    have hx_ := big_le hx
    have h1 : ((j : Int) < (now.length : Int)) := by omega
    have wb : (0 : Int) ≤ ((j : Nat) : Int) ∧ ((j : Nat) : Int) < (now.length : Int) := by omega
    have wq : now[Int.toNat ((j : Nat) : Int)]? = some (now.getD (j) 0) := getI (by omega)
    have wp : now[j]? = some (now.getD (j) 0) := getI2 (by omega)
    have zl : j < zs.length := by omega
    have zb : (0 : Int) ≤ ((j : Nat) : Int) ∧ ((j : Nat) : Int) < (zs.length : Int) := by omega
    have zq : zs[Int.toNat ((j : Nat) : Int)]? = some (zs.getD (j) 0) := getI (by omega)
    have zp : zs[j]? = some (zs.getD (j) 0) := getI2 (by omega)
    have wn : IntKind.i64.wrap ((j : Int) + 1) = ((j + 1 : Nat) : Int) := wrapN (by omega) (by omega)
    rw [st42_1]
    simp only [h1, wn, wb, wq, wp, zl, zb, zq, zp, and_self, decide_true, Bool.and_true, Int.le_refl]
    exact ih (j + 1) (divF now s j zs) (by simpa [divF] using hs0) (by omega) (by omega)

theorem lk42_1 : LOK T8 a42 l42 Try.f42.ntmps (loopAt Try.f42 1) := by
  intro ins outs hA s k out h
  have hA' : ([1, 2, 3, 10, 13, 14, 16, 17, 74, 75, 76, 96, 97], [1, 2, 3, 10, 13, 14, 17, 74, 75, 76]) = (ins, outs) := Option.some.inj ((show a42.lp (firstRegion (loopAt Try.f42 1)) = some ([1, 2, 3, 10, 13, 14, 16, 17, 74, 75, 76, 96, 97], [1, 2, 3, 10, 13, 14, 17, 74, 75, 76]) by kernel_rfl).symm.trans hA)
  cases hA'
  have hk : firstRegion (loopAt Try.f42 1) = 14 := by kernel_rfl
  rw [hk] at h
  change lp42_1 s k = some out at h
  unfold lp42_1 at h
  split at h
  · rename_i ys b d s n i n2 q now us gs zs ss
    cases hg : (decide (n2 = (now.length : Int)) && (decide (q = 0) && (Nat.ble now.length big && Nat.beq zs.length now.length))) with
    | false => rw [hg] at h; cases h
    | true =>
      rw [hg] at h
      simp only [Bool.and_eq_true, decide_eq_true_eq] at hg
      obtain ⟨rfl, rfl, hx, gs0⟩ := hg
      refine ⟨(now.length) + 1, ?_⟩
      have hx_ := big_le hx
      have gs0_ := Nat.eq_of_beq_eq_true gs0
      exact (ind42_1 ys b d s n i now us gs ss hx k (now.length) 0 zs (by omega) (by omega) (by omega)).trans h
  · cases h
theorem st42_2 (ys : List Nat) (n : Int) (i : Int) (now : List Nat) (gs : List ((List Nat))) (rs : List Nat) (m : Nat) (k : Ex → St → R) : iterK a42 [10, 14, 20, 121, 122, 123] [14, 20] (codeK T8 a42 l42 Try.f42.ntmps (loopAt Try.f42 2)) (m + 1) ⟨[(10, .fv (.own 0)), (14, .fv (.own 1)), (20, .fv (.own 2)), (121, .fv (.vw (some 1) ⟨.f32, ys⟩)), (122, .fv (.el (.sc (.int .i64 n)))), (123, .fv (.el (.sc (.int .i64 i))))], [some ⟨24, ⟨.f32, now⟩⟩, some ⟨23, ⟨.lf, gs⟩⟩, some ⟨24, ⟨.f32, rs⟩⟩]⟩ k = (match (decide ((i : Int) < n) : Bool) with | true => (match (decide (0 ≤ (i : Int) ∧ (i : Int) < (ys.length : Int)) && true : Bool) with | true => (match (ys : List Nat)[Int.toNat i]? with | some x1 => (match (decide (0 ≤ (i : Int) ∧ (i : Int) < (now.length : Int)) && true : Bool) with | true => (match (now : List Nat)[Int.toNat i]? with | some x2 => (match (Nat.beq 24 24 && decide ((rs : List Nat).length + ([fop .sub .f32 x1 x2] : List Nat).length ≤ 1099511627776) : Bool) with | true => iterK a42 [10, 14, 20, 121, 122, 123] [14, 20] (codeK T8 a42 l42 Try.f42.ntmps (loopAt Try.f42 2)) m ⟨[(10, .fv (.own 0)), (14, .fv (.own 1)), (20, .fv (.own 2)), (121, .fv (.vw (some 1) ⟨.f32, ys⟩)), (122, .fv (.el (.sc (.int .i64 n)))), (123, .fv (.el (.sc (.int .i64 (IntKind.i64.wrap (i + 1))))))], [some ⟨24, ⟨.f32, now⟩⟩, some ⟨23, ⟨.lf, gs⟩⟩, some ⟨24, ⟨.f32, (rs : List Nat) ++ ([fop .sub .f32 x1 x2])⟩⟩]⟩ k | false => none) | none => none) | false => none) | none => none) | false => none) | false => k (.exit 4) ⟨[(14, .fv (.own 0)), (20, .fv (.own 1))], [some ⟨23, ⟨.lf, gs⟩⟩, some ⟨24, ⟨.f32, rs⟩⟩]⟩) := by kernel_rfl
theorem ind42_2 (ys : List Nat) (now : List Nat) (gs : List ((List Nat))) (hx : (Nat.ble ys.length big) = true) (hl : (Nat.ble ys.length now.length) = true) (k : Ex → St → R) : ∀ (m j : Nat) (rs : List Nat), rs.length + m ≤ 1099511627776 → 0 ≤ j → j + m = ys.length → iterK a42 [10, 14, 20, 121, 122, 123] [14, 20] (codeK T8 a42 l42 Try.f42.ntmps (loopAt Try.f42 2)) (m + 1) ⟨[(10, .fv (.own 0)), (14, .fv (.own 1)), (20, .fv (.own 2)), (121, .fv (.vw (some 1) ⟨.f32, ys⟩)), (122, .fv (.el (.sc (.int .i64 (ys.length : Int))))), (123, .fv (.el (.sc (.int .i64 (j : Int)))))], [some ⟨24, ⟨.f32, now⟩⟩, some ⟨23, ⟨.lf, gs⟩⟩, some ⟨24, ⟨.f32, rs⟩⟩]⟩ k =
    k (.exit 4) ⟨[(14, .fv (.own 0)), (20, .fv (.own 1))], [some ⟨23, ⟨.lf, gs⟩⟩, some ⟨24, ⟨.f32, rep (subF ys now) m j (rs : (List Nat))⟩⟩]⟩ := by
  intro m
  induction m with
  | zero =>
    intro j rs hs0 hlo hj
    have hx_ := big_le hx
    have hl_ := Nat.le_of_ble_eq_true hl
    have h1 : ¬ (((j : Int) < (ys.length : Int))) := by omega
    rw [st42_2]
    simp only [h1, rep, decide_false] <;> rfl
  | succ m ih =>
    intro j rs hs0 hlo hj
    have hx_ := big_le hx
    have hl_ := Nat.le_of_ble_eq_true hl
    have h1 : ((j : Int) < (ys.length : Int)) := by omega
    have yb : (0 : Int) ≤ ((j : Nat) : Int) ∧ ((j : Nat) : Int) < (ys.length : Int) := by omega
    have yq : ys[Int.toNat ((j : Nat) : Int)]? = some (ys.getD (j) 0) := getI (by omega)
    have yp : ys[j]? = some (ys.getD (j) 0) := getI2 (by omega)
    have wl : j < now.length := by omega
    have wb : (0 : Int) ≤ ((j : Nat) : Int) ∧ ((j : Nat) : Int) < (now.length : Int) := by omega
    have wq : now[Int.toNat ((j : Nat) : Int)]? = some (now.getD (j) 0) := getI (by omega)
    have wp : now[j]? = some (now.getD (j) 0) := getI2 (by omega)
    have hrl : rs.length + 1 ≤ 1099511627776 := by omega
    have hbq : Nat.beq 24 24 = true := rfl
    have wn : IntKind.i64.wrap ((j : Int) + 1) = ((j + 1 : Nat) : Int) := wrapN (by omega) (by omega)
    rw [st42_2]
    simp only [h1, wn, yb, yq, yp, wl, wb, wq, wp, hrl, hbq, and_self, decide_true, Bool.and_true, Int.le_refl]
    simp only [hrl, List.length_singleton, decide_true, Bool.and_self]
    exact ih (j + 1) (subF ys now j rs) (by simp [subF]; omega) (by omega) (by omega)

theorem lk42_2 : LOK T8 a42 l42 Try.f42.ntmps (loopAt Try.f42 2) := by
  intro ins outs hA s k out h
  have hA' : ([10, 14, 20, 121, 122, 123], [14, 20]) = (ins, outs) := Option.some.inj ((show a42.lp (firstRegion (loopAt Try.f42 2)) = some ([10, 14, 20, 121, 122, 123], [14, 20]) by kernel_rfl).symm.trans hA)
  cases hA'
  have hk : firstRegion (loopAt Try.f42 2) = 22 := by kernel_rfl
  rw [hk] at h
  change lp42_2 s k = some out at h
  unfold lp42_2 at h
  split at h
  · rename_i ys n i now gs rs
    cases hg : (decide (n = (ys.length : Int)) && (decide (i = 0) && (Nat.ble ys.length big && (Nat.ble ys.length now.length && Nat.ble (rs.length + ys.length) big)))) with
    | false => rw [hg] at h; cases h
    | true =>
      rw [hg] at h
      simp only [Bool.and_eq_true, decide_eq_true_eq] at hg
      obtain ⟨rfl, rfl, hx, hl, gs0⟩ := hg
      refine ⟨(ys.length) + 1, ?_⟩
      have hx_ := big_le hx
      have hl_ := Nat.le_of_ble_eq_true hl
      have gs0_ := big_le gs0
      exact (ind42_2 ys now gs hx hl k (ys.length) 0 rs (by omega) (by omega) (by omega)).trans h
  · cases h
def gm42_3 : St → Option Nat → (Ex → St → Option Nat → R) → R := fun s M K => match s, M with
  | ⟨[(23, .fv (.mv 0 e π)), (142, .fv (.el (.sc (.int .i64 n)))), (143, .fv (.el (.sc (.int .i64 i))))], [none, some ⟨e0, ⟨.f32, x⟩⟩, some ⟨e1, ⟨.f32, y⟩⟩, some ⟨e2, ⟨.f32, z⟩⟩]⟩, some 0 => bif (eqP π [some 1, some 2, some 3] && Nat.beq e 23) && (sq3 [x, y, z] && (decide (n = 3) && decide (i = 0))) then K (.exit 6) ⟨[(23, .fv (.mv 0 23 [some 1, some 2, some 3]))], [none, some ⟨e0, ⟨.f32, dgR 0 x⟩⟩, some ⟨e1, ⟨.f32, dgR 1 y⟩⟩, some ⟨e2, ⟨.f32, dgR 2 z⟩⟩]⟩ (some 0) else none
  | _, _ => none
def b42_3 : Ann := { lp := look [(28, [23, 142, 143], [23])], rets := [], lm := fun k => bif Nat.beq k 28 then some gm42_3 else none }
theorem dg42_3 (K : Ex → St → Option Nat → R) (e0 e1 e2 x0 x1 x2 x3 y0 y1 y2 y3 z0 z1 z2 z3 : Nat) : iterN b42_3 [23, 142, 143] [23] (codeU T8 b42_3 noL noG Try.f42.ntmps 9 (loopAt Try.f42 3)) 4 ⟨[(23, .fv (.mv 0 23 [some 1, some 2, some 3])), (142, .fv (.el (.sc (.int .i64 3)))), (143, .fv (.el (.sc (.int .i64 0))))], [none, some ⟨e0, ⟨.f32, [x0, x1, x2, x3]⟩⟩, some ⟨e1, ⟨.f32, [y0, y1, y2, y3]⟩⟩, some ⟨e2, ⟨.f32, [z0, z1, z2, z3]⟩⟩]⟩ (some 0) K = K (.exit 6) ⟨[(23, .fv (.mv 0 23 [some 1, some 2, some 3]))], [none, some ⟨e0, ⟨.f32, dgR 0 [x0, x1, x2, x3]⟩⟩, some ⟨e1, ⟨.f32, dgR 1 [y0, y1, y2, y3]⟩⟩, some ⟨e2, ⟨.f32, dgR 2 [z0, z1, z2, z3]⟩⟩]⟩ (some 0) := by kernel_rfl
theorem op42_3 (K : Ex → St → Option Nat → R) (e0 e1 e2 x0 x1 x2 x3 y0 y1 y2 y3 z0 z1 z2 z3 : Nat) : codeU T8 b42_3 noL noG Try.f42.ntmps 9 (.loop (loopAt Try.f42 3)) (openS ⟨[(23, .fv (.own 0)), (142, .fv (.el (.sc (.int .i64 3)))), (143, .fv (.el (.sc (.int .i64 0))))], [some ⟨23, ⟨.lf, [[x0, x1, x2, x3], [y0, y1, y2, y3], [z0, z1, z2, z3]]⟩⟩]⟩ 23 0 23 [e0, e1, e2] [[x0, x1, x2, x3], [y0, y1, y2, y3], [z0, z1, z2, z3]]) (some 0) K = K (.exit 6) ⟨[(23, .fv (.mv 0 23 [some 1, some 2, some 3]))], [none, some ⟨e0, ⟨.f32, dgR 0 [x0, x1, x2, x3]⟩⟩, some ⟨e1, ⟨.f32, dgR 1 [y0, y1, y2, y3]⟩⟩, some ⟨e2, ⟨.f32, dgR 2 [z0, z1, z2, z3]⟩⟩]⟩ (some 0) := by kernel_rfl
theorem lu42_3 : LoopsU T8 b42_3 noL noG Try.f42.ntmps 9 (.loop (loopAt Try.f42 3)) := loopsU_all fun b hb => by
  have hbs : loopBodies (.loop (loopAt Try.f42 3)) = [loopAt Try.f42 3] := by kernel_rfl
  rw [hbs, List.mem_singleton] at hb
  subst hb
  intro ins outs F h1 h2 s M K out h
  have g1 : b42_3.lp (firstRegion (loopAt Try.f42 3)) = some ([23, 142, 143], [23]) := by kernel_rfl
  have g2 : b42_3.lm (firstRegion (loopAt Try.f42 3)) = some gm42_3 := by kernel_rfl
  rw [g1] at h1
  rw [g2] at h2
  cases h1
  cases h2
  unfold gm42_3 at h
  split at h
  · rename_i e π n i e0 x e1 y e2 z
    generalize hc : ((eqP π [some 1, some 2, some 3] && Nat.beq e 23) && (sq3 [x, y, z] && (decide (n = 3) && decide (i = 0)))) = c1 at h
    cases c1 with
    | false => cases h
    | true =>
      simp only [cond_true] at h
      simp only [Bool.and_eq_true, decide_eq_true_eq] at hc
      obtain ⟨⟨c1, c2⟩, c3, rfl, rfl⟩ := hc
      have c4 := eqP_ok c1
      have c5 := Nat.eq_of_beq_eq_true c2
      subst c4 c5
      obtain ⟨x0, x1, x2, x3, y0, y1, y2, y3, z0, z1, z2, z3, hX⟩ := sq3_lit c3
      simp only [List.cons.injEq, and_true] at hX
      obtain ⟨rfl, rfl, rfl⟩ := hX
      exact ⟨4, (dg42_3 K  e0 e1 e2 x0 x1 x2 x3 y0 y1 y2 y3 z0 z1 z2 z3).trans h⟩
  · cases h
theorem lk42_3 : LOK2 Try.prog T8 a42 l42 Try.f42.ntmps (loopAt Try.f42 3) := by
  intro ins outs hA s k out h
  have hk : firstRegion (loopAt Try.f42 3) = 28 := by kernel_rfl
  rw [hk] at h
  change lp42_3 s k = some out at h
  unfold lp42_3 at h
  split at h
  · rename_i n i X
    cases hg : (sq3 X && (decide (n = 3) && decide (i = 0))) with
    | false =>
      have h' := h
      rw [show (sq3 (X : List (List Nat)) && (decide (n = 3) && decide (i = 0))) = false from hg] at h'
      cases h'
    | true =>
      rw [show (sq3 (X : List (List Nat)) && (decide (n = 3) && decide (i = 0))) = true from hg] at h
      dsimp only at h
      simp only [Bool.and_eq_true, decide_eq_true_eq] at hg
      obtain ⟨c3, rfl, rfl⟩ := hg
      obtain ⟨x0, x1, x2, x3, y0, y1, y2, y3, z0, z1, z2, z3, rfl⟩ := sq3_lit c3
      refine .inr (open_sem (A2 := b42_3) (fuel := 9) (xi := 6) (t := 23) (q := 0) (q2 := 0) (e := 23) (ms := [1, 2, 3]) (X' := diagX 0 [[x0, x1, x2, x3], [y0, y1, y2, y3], [z0, z1, z2, z3]]) (fin := fun es => ⟨[(23, .fv (.mv 0 23 [some 1, some 2, some 3]))], [none, some ⟨es.getD 0 0, ⟨.f32, dgR 0 [x0, x1, x2, x3]⟩⟩, some ⟨es.getD 1 0, ⟨.f32, dgR 1 [y0, y1, y2, y3]⟩⟩, some ⟨es.getD 2 0, ⟨.f32, dgR 2 [z0, z1, z2, z3]⟩⟩]⟩) tok8 lu42_3 rfl rfl (Nat.le_of_ble_eq_true rfl) (fun r hr => ?_) (fun es he K => ?_) (fun es he => rfl) (fun es he j m x hm hx => ?_) rfl (fun i j m hi hj => ?_) (fun es he => rfl) (fun es he u av hu => ?_) (fun es he => rfl) h)
      · rcases r with _ | r
        all_goals first | rfl | exact absurd rfl hr
      · obtain ⟨e0, e1, e2, rfl⟩ := lst3 he
        exact op42_3 K  e0 e1 e2 x0 x1 x2 x3 y0 y1 y2 y3 z0 z1 z2 z3
      · rcases j with _ | _ | _ | j
        all_goals simp only [List.getElem?_cons_zero, List.getElem?_cons_succ, List.getElem?_nil, diagX, Option.some.injEq] at hm hx
        all_goals first | (subst hm; subst hx; exact ⟨_, rfl⟩) | cases hm
      · rcases i with _ | _ | _ | i <;> rcases j with _ | _ | _ | j
        all_goals simp only [List.getElem?_cons_zero, List.getElem?_cons_succ, List.getElem?_nil, Option.some.injEq] at hi hj
        all_goals first | rfl | (cases hi; done) | (cases hj; done) | omega
      · simp only [lk_cons] at hu
        repeat' split at hu
        all_goals first | (cases hu; done) | skip
        all_goals (rename_i hu0; cases hu; subst hu0)
        all_goals first | exact .inl ⟨rfl, rfl⟩ | exact .inr ⟨rfl, .inl rfl⟩ | exact .inr ⟨rfl, .inr ⟨_, _, rfl, 1, rfl⟩⟩
  · cases h
theorem e42 (lp : Nat) (lh : Nat) (lw : Nat) (lk : Int) (ys : List Nat) (b : Nat) (d : Nat) : runFn T8 a42 l42 Try.f42 [.el (.ag [(.fl .f32 lp), (.fl .f32 lh), (.fl .f32 lw), (.int .i64 lk)]), .vw none ⟨.f32, ys⟩, .el (.sc (.fl .f32 b)), .el (.sc (.fl .f32 d))] = (match (decide ((ys.length : Int) ≤ 128) : Bool) with | true => (match (!(rowAll ((⟨lp, lh, lw, lk⟩ : LineV)) b d (((ys.length : Int)).toNat)) : Bool) with | true => some ⟨[.nil, .el (.sc (.bo false))], none⟩ | false => (match ((decide (((([fop .mul .f32 lw 1015021568, 1015021568, fop .mul .f32 lw 1015021568] : List Nat).length : Int)) = (([fop .mul .f32 lw 1015021568, 1015021568, fop .mul .f32 lw 1015021568] : List Nat).length : Int)) && (decide (0 = 0) && (Nat.ble ([fop .mul .f32 lw 1015021568, 1015021568, fop .mul .f32 lw 1015021568] : List Nat).length big && (Nat.ble ([fop .mul .f32 lw 1015021568, 1015021568, fop .mul .f32 lw 1015021568] : List Nat).length ([(⟨fop .add .f32 lp (fop .mul .f32 lw 1015021568), lh, lw, lk⟩ : LineV), (⟨lp, fop .add .f32 lh 1015021568, lw, lk⟩ : LineV), (⟨lp, lh, fop .mul .f32 lw 1065484288, lk⟩ : LineV)] : List LineV).length && (Nat.beq (orNil (rowAll ((⟨lp, lh, lw, lk⟩ : LineV)) b d (((ys.length : Int)).toNat)) (rowV ((⟨lp, lh, lw, lk⟩ : LineV)) b d (((ys.length : Int)).toNat)) : List Nat).length ys.length && (Nat.ble ys.length 128 && Nat.ble ((([] : List (List Nat)) : List ((List Nat))).length + ([fop .mul .f32 lw 1015021568, 1015021568, fop .mul .f32 lw 1015021568] : List Nat).length) big)))))) : Bool) with | true => (match repE (chF ([(⟨fop .add .f32 lp (fop .mul .f32 lw 1015021568), lh, lw, lk⟩ : LineV), (⟨lp, fop .add .f32 lh 1015021568, lw, lk⟩ : LineV), (⟨lp, lh, fop .mul .f32 lw 1065484288, lk⟩ : LineV)] : List LineV) ([fop .mul .f32 lw 1015021568, 1015021568, fop .mul .f32 lw 1015021568] : List Nat) b d ys.length (orNil (rowAll ((⟨lp, lh, lw, lk⟩ : LineV)) b d (((ys.length : Int)).toNat)) (rowV ((⟨lp, lh, lw, lk⟩ : LineV)) b d (((ys.length : Int)).toNat)) : List Nat)) (([fop .mul .f32 lw 1015021568, 1015021568, fop .mul .f32 lw 1015021568] : List Nat).length) 0 ((([] : List (List Nat)) : List ((List Nat))) : (List (List Nat))) with | some s => (match ((decide (((ys.length : Int)) = (ys.length : Int)) && (decide (0 = 0) && (Nat.ble ys.length big && (Nat.ble ys.length ((orNil (rowAll ((⟨lp, lh, lw, lk⟩ : LineV)) b d (((ys.length : Int)).toNat)) (rowV ((⟨lp, lh, lw, lk⟩ : LineV)) b d (((ys.length : Int)).toNat)) : List Nat) : List Nat).length && Nat.ble (([] : List Nat).length + ys.length) big)))) : Bool) with | true => (match (rowsFit ((s : List ((List Nat)))) (rep (subF ys ((orNil (rowAll ((⟨lp, lh, lw, lk⟩ : LineV)) b d (((ys.length : Int)).toNat)) (rowV ((⟨lp, lh, lw, lk⟩ : LineV)) b d (((ys.length : Int)).toNat)) : List Nat) : List Nat)) (ys.length) 0 (([] : List Nat) : (List Nat))) : Bool) with | true => (match (sq3 ((gram ((s : List ((List Nat)))) (rep (subF ys ((orNil (rowAll ((⟨lp, lh, lw, lk⟩ : LineV)) b d (((ys.length : Int)).toNat)) (rowV ((⟨lp, lh, lw, lk⟩ : LineV)) b d (((ys.length : Int)).toNat)) : List Nat) : List Nat)) (ys.length) 0 (([] : List Nat) : (List Nat))) : List (List Nat))) && (decide (((gram ((s : List ((List Nat)))) (rep (subF ys ((orNil (rowAll ((⟨lp, lh, lw, lk⟩ : LineV)) b d (((ys.length : Int)).toNat)) (rowV ((⟨lp, lh, lw, lk⟩ : LineV)) b d (((ys.length : Int)).toNat)) : List Nat) : List Nat)) (ys.length) 0 (([] : List Nat) : (List Nat)))).length : Int) = 3) && decide (0 = 0)) : Bool) with | true => (match (sqOk (diagX 0 (gram ((s : List ((List Nat)))) (rep (subF ys ((orNil (rowAll ((⟨lp, lh, lw, lk⟩ : LineV)) b d (((ys.length : Int)).toNat)) (rowV ((⟨lp, lh, lw, lk⟩ : LineV)) b d (((ys.length : Int)).toNat)) : List Nat) : List Nat)) (ys.length) 0 (([] : List Nat) : (List Nat))) : List (List Nat))) && Nat.ble (diagX 0 (gram ((s : List ((List Nat)))) (rep (subF ys ((orNil (rowAll ((⟨lp, lh, lw, lk⟩ : LineV)) b d (((ys.length : Int)).toNat)) (rowV ((⟨lp, lh, lw, lk⟩ : LineV)) b d (((ys.length : Int)).toNat)) : List Nat) : List Nat)) (ys.length) 0 (([] : List Nat) : (List Nat))) : List (List Nat))).length 3 : Bool) with | true => (match solveL (diagX 0 (gram ((s : List ((List Nat)))) (rep (subF ys ((orNil (rowAll ((⟨lp, lh, lw, lk⟩ : LineV)) b d (((ys.length : Int)).toNat)) (rowV ((⟨lp, lh, lw, lk⟩ : LineV)) b d (((ys.length : Int)).toNat)) : List Nat) : List Nat)) (ys.length) 0 (([] : List Nat) : (List Nat))) : List (List Nat))) with | some l => some ⟨[.fresh 24 ⟨.f32, l⟩, .el (.sc (.bo true))], none⟩ | none => some ⟨[.nil, .el (.sc (.bo false))], none⟩) | false => none) | false => none) | false => none) | false => none) | none => some ⟨[.nil, .el (.sc (.bo false))], none⟩) | false => none)) | false => none) := by kernel_rfl
theorem s42 (lp : Nat) (lh : Nat) (lw : Nat) (lk : Int) (ys : List Nat) (b : Nat) (d : Nat) (hg : (Nat.ble ys.length 128) = true) : runFn T8 a42 l42 Try.f42 [.el (.ag [(.fl .f32 lp), (.fl .f32 lh), (.fl .f32 lw), (.int .i64 lk)]), .vw none ⟨.f32, ys⟩, .el (.sc (.fl .f32 b)), .el (.sc (.fl .f32 d))] = (match (chOk ((⟨lp, lh, lw, lk⟩ : LineV)) ys b d : Bool) with | true => some ⟨[.fresh 24 ⟨.f32, chX ((⟨lp, lh, lw, lk⟩ : LineV)) ys b d⟩, .el (.sc (.bo true))], none⟩ | false => some ⟨[.nil, .el (.sc (.bo false))], none⟩) := by
  rw [e42]
  have hy := Nat.le_of_ble_eq_true hg
  have d0 : decide ((ys.length : Int) ≤ 128) = true := decide_eq_true (by omega)
  simp only [d0, Int.toNat_natCast]
  unfold chOk chX
  rcases Bool.eq_false_or_eq_true (rowAll (⟨lp, lh, lw, lk⟩ : LineV) b d ys.length) with h1 | h1
  case inr =>
    have : chL (⟨lp, lh, lw, lk⟩ : LineV) ys b d = none := by unfold chL; rw [h1]; rfl
    simp only [this, h1, Bool.not_false, Option.isSome_none]
  case inl =>
    have hl : (rowV (⟨lp, lh, lw, lk⟩ : LineV) b d ys.length).length = ys.length := rowV_len _ _ _ _
    have hL : chL (⟨lp, lh, lw, lk⟩ : LineV) ys b d = (match repE (chF (alts (⟨lp, lh, lw, lk⟩ : LineV)) (byS (⟨lp, lh, lw, lk⟩ : LineV)) b d ys.length (rowV (⟨lp, lh, lw, lk⟩ : LineV) b d ys.length)) 3 0 [] with
      | some gs => solveL (diagX 0 (gram gs (subR ys (rowV (⟨lp, lh, lw, lk⟩ : LineV) b d ys.length))))
      | none => none) := by unfold chL; rw [h1]; rfl
    rw [hL]
    have e6 : repE (chF [(⟨fop .add .f32 lp (fop .mul .f32 lw 1015021568), lh, lw, lk⟩ : LineV), ⟨lp, fop .add .f32 lh 1015021568, lw, lk⟩, ⟨lp, lh, fop .mul .f32 lw 1065484288, lk⟩] [fop .mul .f32 lw 1015021568, 1015021568, fop .mul .f32 lw 1015021568] b d ys.length (rowV (⟨lp, lh, lw, lk⟩ : LineV) b d ys.length)) ([fop .mul .f32 lw 1015021568, 1015021568, fop .mul .f32 lw 1015021568] : List Nat).length 0 [] = repE (chF (alts (⟨lp, lh, lw, lk⟩ : LineV)) (byS (⟨lp, lh, lw, lk⟩ : LineV)) b d ys.length (rowV (⟨lp, lh, lw, lk⟩ : LineV) b d ys.length)) 3 0 [] := rfl
    have e7 : rep (subF ys (rowV (⟨lp, lh, lw, lk⟩ : LineV) b d ys.length)) ys.length 0 [] = subR ys (rowV (⟨lp, lh, lw, lk⟩ : LineV) b d ys.length) := rfl
    have b1 : decide ((([fop .mul .f32 lw 1015021568, 1015021568, fop .mul .f32 lw 1015021568] : List Nat).length : Int) = (([fop .mul .f32 lw 1015021568, 1015021568, fop .mul .f32 lw 1015021568] : List Nat).length : Int)) = true := rfl
    have b2 : decide ((0 : Int) = 0) = true := rfl
    have b3 : Nat.ble ([fop .mul .f32 lw 1015021568, 1015021568, fop .mul .f32 lw 1015021568] : List Nat).length big = true := rfl
    have b4 : Nat.ble ([fop .mul .f32 lw 1015021568, 1015021568, fop .mul .f32 lw 1015021568] : List Nat).length ([(⟨fop .add .f32 lp (fop .mul .f32 lw 1015021568), lh, lw, lk⟩ : LineV), ⟨lp, fop .add .f32 lh 1015021568, lw, lk⟩, ⟨lp, lh, fop .mul .f32 lw 1065484288, lk⟩] : List LineV).length = true := rfl
    have b5 : Nat.beq (rowV (⟨lp, lh, lw, lk⟩ : LineV) b d ys.length).length ys.length = true := by rw [hl]; exact Nat.beq_refl _
    have b6 : Nat.ble (([] : List (List Nat)).length + ([fop .mul .f32 lw 1015021568, 1015021568, fop .mul .f32 lw 1015021568] : List Nat).length) big = true := rfl
    have b7 : decide ((ys.length : Int) = (ys.length : Int)) = true := decide_eq_true rfl
    have b8 : Nat.ble ys.length big = true := big_of (by omega)
    have b9 : Nat.ble ys.length (rowV (⟨lp, lh, lw, lk⟩ : LineV) b d ys.length).length = true := by rw [hl]; exact Nat.ble_eq_true_of_le (Nat.le_refl _)
    have b10 : Nat.ble (([] : List Nat).length + ys.length) big = true := by rw [List.length_nil, Nat.zero_add]; exact b8
    simp only [h1, orNil, b1, b2, b3, b4, b5, b6, hg, e6, Bool.not_true, Bool.and_self]
    cases hr : repE (chF (alts (⟨lp, lh, lw, lk⟩ : LineV)) (byS (⟨lp, lh, lw, lk⟩ : LineV)) b d ys.length (rowV (⟨lp, lh, lw, lk⟩ : LineV) b d ys.length)) 3 0 [] with
    | none => rfl
    | some gs =>
      obtain ⟨g1, g2⟩ := chF_rows 3 0 [] gs hr (fun a ha => by cases ha)
      obtain ⟨f1, f2, f3, f4⟩ := fit3 (by simpa using g1) g2 (subR_len ys (rowV (⟨lp, lh, lw, lk⟩ : LineV) b d ys.length)) hy
      have b11 : decide (((gram gs (subR ys (rowV (⟨lp, lh, lw, lk⟩ : LineV) b d ys.length))).length : Int) = 3) = true := decide_eq_true (by omega)
      have b12 := diag_len3 f2
      simp only [b2, b7, b8, b9, b10, e7, f1, f2, f3, b11, b12, Bool.and_self]
      cases solveL (diagX 0 (gram gs (subR ys (rowV (⟨lp, lh, lw, lk⟩ : LineV) b d ys.length)))) <;> rfl
theorem c42 (lp : Nat) (lh : Nat) (lw : Nat) (lk : Int) (ys : List Nat) (b : Nat) (d : Nat) (k : List RV → R) (out : Out) (h : (match (Nat.ble ys.length 128 : Bool) with | true => k [.fresh 24 ⟨.f32, orNil (chOk ((⟨lp, lh, lw, lk⟩ : LineV)) ys b d) (chX ((⟨lp, lh, lw, lk⟩ : LineV)) ys b d)⟩, .el (.sc (.bo (chOk ((⟨lp, lh, lw, lk⟩ : LineV)) ys b d)))] | false => none) = some out) : ∃ rs, Real Try.prog 42 ∧ COK Try.prog 42 [.el (.ag [(.fl .f32 lp), (.fl .f32 lh), (.fl .f32 lw), (.int .i64 lk)]), .vw none ⟨.f32, ys⟩, .el (.sc (.fl .f32 b)), .el (.sc (.fl .f32 d))] rs ∧ k rs = some out := by
  cases g0 : (Nat.ble ys.length 128 : Bool) with
  | false =>
    rw [g0] at h
    cases h
  | true =>
    rw [g0] at h
    dsimp only at h
    cases g1 : (chOk ((⟨lp, lh, lw, lk⟩ : LineV)) ys b d : Bool) with
    | true =>
      rw [g1] at h
      exact ⟨_, real Try.func42 (by kernel_rfl), fn_ok2 tok8 (A := a42) (L := l42) (r := none) Try.func42 (by kernel_rfl) (by kernel_rfl) (loopsB4 (by kernel_rfl) lk42.two lk42_1.two lk42_2.two lk42_3) (by rw [s42 _ _ _ _ _ _ _ g0, g1]; rfl), h⟩
    | false =>
      rw [g1] at h
      exact ⟨_, real Try.func42 (by kernel_rfl), COK.nil (fn_ok2 tok8 (A := a42) (L := l42) (r := none) Try.func42 (by kernel_rfl) (by kernel_rfl) (loopsB4 (by kernel_rfl) lk42.two lk42_1.two lk42_2.two lk42_3) (by rw [s42 _ _ _ _ _ _ _ g0, g1] <;> rfl)), h⟩

/-! slices.ContainsFunc[[]impl.Line,impl.Line] -/
theorem e46 (xs : List LineV) : runFn T8 none0 noL Try.f46 [.vw none ⟨.line, xs⟩, .fn 47 []] = (match (Nat.ble xs.length big : Bool) with | true => some ⟨[.el (.sc (.bo (decide ((firstAt notLine xs : Int) ≥ 0))))], none⟩ | false => none) := by kernel_rfl
theorem s46 (xs : List LineV) : runFn T8 none0 noL Try.f46 [.vw none ⟨.line, xs⟩, .fn 47 []] = (match (Nat.ble xs.length big : Bool) with | true => some ⟨[.el (.sc (.bo (xs.any notLine)))], none⟩ | false => none) := by
  rw [e46]
  rw [any_firstAt]
theorem c46 (xs : List LineV) (k : List RV → R) (out : Out) (h : (match (Nat.ble xs.length big : Bool) with | true => k [.el (.sc (.bo (xs.any notLine)))] | false => none) = some out) : ∃ rs, Real Try.prog 46 ∧ COK Try.prog 46 [.vw none ⟨.line, xs⟩, .fn 47 []] rs ∧ k rs = some out := by
  cases g0 : (Nat.ble xs.length big : Bool) with
  | true =>
    rw [g0] at h
    exact ⟨_, real Try.func46 (by kernel_rfl), fn_ok tok8 (A := none0) (L := noL) (r := none) Try.func46 (by kernel_rfl) (by kernel_rfl) (loops0 (by kernel_rfl)) (by rw [s46, g0]), h⟩
  | false =>
    rw [g0] at h
    cases h

def S9 : SFn := fun f args k => match f, args with
  | 15, [.el (.ag [(.fl .f32 lp), (.fl .f32 lh), (.fl .f32 lw), (.int .i64 lk)]), .vw none ⟨.f32, ys⟩, .el (.sc (.fl .f32 b)), .el (.sc (.fl .f32 d)), .el (.sc (.int .i64 n))] => (match (Nat.ble ys.length big : Bool) with | true => (match flS ((⟨lp, lh, lw, lk⟩ : LineV)) ys b d n with | some s_10 => k [.el (.ag [(.fl .f32 s_10.1.p), (.fl .f32 s_10.1.h), (.fl .f32 s_10.1.w), (.int .i64 s_10.1.k)]), .el (.sc (.fl .f32 s_10.2)), .el (.sc (.bo true))] | none => k [.el (.ag [(.fl .f32 0), (.fl .f32 0), (.fl .f32 0), (.int .i64 0)]), .el (.sc (.fl .f32 0)), .el (.sc (.bo false))]) | false => none)
  | 42, [.el (.ag [(.fl .f32 lp), (.fl .f32 lh), (.fl .f32 lw), (.int .i64 lk)]), .vw none ⟨.f32, ys⟩, .el (.sc (.fl .f32 b)), .el (.sc (.fl .f32 d))] => (match (Nat.ble ys.length 128 : Bool) with | true => k [.fresh 24 ⟨.f32, orNil (chOk ((⟨lp, lh, lw, lk⟩ : LineV)) ys b d) (chX ((⟨lp, lh, lw, lk⟩ : LineV)) ys b d)⟩, .el (.sc (.bo (chOk ((⟨lp, lh, lw, lk⟩ : LineV)) ys b d)))] | false => none)
  | 46, [.vw none ⟨.line, xs⟩, .fn 47 []] => (match (Nat.ble xs.length big : Bool) with | true => k [.el (.sc (.bo (xs.any notLine)))] | false => none)
  | _, _ => S8 f args k
abbrev M9 : MFn := M8
def T9 : TT := tab.T S9 muts M9
theorem tok9 : TOK Try.prog T9 := by
  refine (tab_ok tabok).tok (fun f args k out h => ?_) (fun f vec args k out h => ?_)
  · change S9 f args k = some out at h
    unfold S9 at h
    split at h
    · exact (fun k out h => cok_call (c15 _ _ _ _ _ _ _ _ k out h)) k out h
    · exact (fun k out h => cok_call (c42 _ _ _ _ _ _ _ k out h)) k out h
    · exact (fun k out h => cok_call (c46 _ k out h)) k out h
    · exact tok8.S f args k out h
  · exact tok8.M f vec args k out h

end Go.Sm.Ytpckpfbjhnllbaa
