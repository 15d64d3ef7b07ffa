/- What the functions hand back: level 2. -/
import Derived.Test.YtngcejakoaoojaaD2
namespace Go.Sm.Ytngcejakoaoojaa
open Go Go.Sm Go.RowKit Go.Proofs

/-! spec.EdgeLevels -/
def a22 : Ann := ann [(7, [0, 1, 6, 7, 8], [6]), (11, [0, 1, 6, 7, 8, 9, 29, 30], [0, 1, 6, 7, 8, 9]), (25, [6, 113, 114], [6])] [4, 5] 0
def lp22 : St → (Ex → St → R) → R := fun s k => match s with
  | ⟨[(0, .fv (.el (.sc (.int .i64 v)))), (1, .fv (.vw (some 1) ⟨.edge, es⟩)), (6, .fv (.own 0)), (7, .fv (.own 1)), (8, .fv (.el (.sc (.int .i64 c))))], [some ⟨29, ⟨.f32, out⟩⟩, some ⟨4, ⟨.bo, td⟩⟩]⟩ => (match ((decide (c = 1) && (decide (1 ≤ v ∧ v ≤ 1099511627776) && (es.all (edgeIn ((td : List Bool)).length) && (Nat.beq ((out : List Nat)).length ((td : List Bool)).length && Nat.ble es.length big)))) : Bool) with
    | true => (match rounds es (v - 1).toNat ((out : List Nat), (td : List Bool)) with
      | some s => k (.exit 0) ⟨[(6, .fv (.own 0))], [some ⟨29, ⟨.f32, s.1⟩⟩]⟩
      | none => k .ret ⟨[(4, .fv (.nil)), (5, .fv (.el (.sc (.bo false))))], []⟩)
    | false => none)
  | _ => none
def lp22_1 : St → (Ex → St → R) → R := fun s k => match s with
  | ⟨[(0, .fv (.el (.sc (.int .i64 v)))), (1, .fv (.vw (some 1) ⟨.edge, es⟩)), (6, .fv (.own 0)), (7, .fv (.own 1)), (8, .fv (.el (.sc (.int .i64 c)))), (9, .fv (.el (.sc (.bo fd)))), (29, .fv (.el (.sc (.int .i64 n)))), (30, .fv (.el (.sc (.int .i64 i))))], [some ⟨29, ⟨.f32, out⟩⟩, some ⟨4, ⟨.bo, td⟩⟩]⟩ => (match ((decide (n = (es.length : Int)) && (decide (i = 0) && (es.all (edgeIn ((td : List Bool)).length) && (Nat.beq ((out : List Nat)).length ((td : List Bool)).length && Nat.ble es.length big)))) : Bool) with
    | true => k (.exit 2) ⟨[(0, .fv (.el (.sc (.int .i64 v)))), (1, .fv (.vw (some 1) ⟨.edge, es⟩)), (6, .fv (.own 0)), (7, .fv (.own 1)), (8, .fv (.el (.sc (.int .i64 c)))), (9, .fv (.el (.sc (.bo ((scanE es (fd, (out : List Nat), (td : List Bool))).1)))))], [some ⟨29, ⟨.f32, (scanE es (fd, (out : List Nat), (td : List Bool))).2.1⟩⟩, some ⟨4, ⟨.bo, (scanE es (fd, (out : List Nat), (td : List Bool))).2.2⟩⟩]⟩
    | false => none)
  | _ => none
def lp22_2 : St → (Ex → St → R) → R := fun s k => match s with
  | ⟨[(6, .fv (.own 0)), (113, .fv (.el (.sc (.int .i64 n)))), (114, .fv (.el (.sc (.int .i64 i))))], [some ⟨29, ⟨.f32, zs⟩⟩]⟩ => (match ((decide (n = ((zs : List Nat).length : Int)) && (decide (i = 0) && Nat.ble (zs : List Nat).length big)) : Bool) with
    | true => (match ((zs : List Nat).all fin : Bool) with
      | true => k (.exit 4) ⟨[(6, .fv (.own 0))], [some ⟨29, ⟨.f32, zs⟩⟩]⟩
      | false => k .ret ⟨[(4, .fv (.nil)), (5, .fv (.el (.sc (.bo false))))], []⟩)
    | false => none)
  | _ => none
def l22 : Loops := fun key s k => bif Nat.beq key 7 then lp22 s k else bif Nat.beq key 11 then lp22_1 s k else bif Nat.beq key 25 then lp22_2 s k else none
theorem st22 (v : Int) (es : List EdgeV) (c : Int) (out : List Nat) (td : List Bool) (m : Nat) (k : Ex → St → R) : iterK a22 [0, 1, 6, 7, 8] [6] (codeK T2 a22 l22 Try.f22.ntmps (loopAt Try.f22 0)) (m + 1) ⟨[(0, .fv (.el (.sc (.int .i64 v)))), (1, .fv (.vw (some 1) ⟨.edge, es⟩)), (6, .fv (.own 0)), (7, .fv (.own 1)), (8, .fv (.el (.sc (.int .i64 c))))], [some ⟨29, ⟨.f32, out⟩⟩, some ⟨4, ⟨.bo, td⟩⟩]⟩ k = (match (decide ((c : Int) < v) : Bool) with
  | true => (match ((decide ((es.length : Int) = (es.length : Int)) && (decide (0 = 0) && (es.all (edgeIn ((td : List Bool)).length) && (Nat.beq ((out : List Nat)).length ((td : List Bool)).length && Nat.ble es.length big)))) : Bool) with
    | true => (match (!((scanE es (false, (out : List Nat), (td : List Bool))).1) : Bool) with
      | true => k .ret ⟨[(4, .fv (.nil)), (5, .fv (.el (.sc (.bo false))))], []⟩
      | false => iterK a22 [0, 1, 6, 7, 8] [6] (codeK T2 a22 l22 Try.f22.ntmps (loopAt Try.f22 0)) m ⟨[(0, .fv (.el (.sc (.int .i64 v)))), (1, .fv (.vw (some 1) ⟨.edge, es⟩)), (6, .fv (.own 0)), (7, .fv (.own 1)), (8, .fv (.el (.sc (.int .i64 (IntKind.i64.wrap (c + 1))))))], [some ⟨29, ⟨.f32, (scanE es (false, (out : List Nat), (td : List Bool))).2.1⟩⟩, some ⟨4, ⟨.bo, (scanE es (false, (out : List Nat), (td : List Bool))).2.2⟩⟩]⟩ k)
    | false => none)
  | false => k (.exit 0) ⟨[(6, .fv (.own 0))], [some ⟨29, ⟨.f32, out⟩⟩]⟩) := by kernel_rfl
theorem ind22 (v : Int) (es : List EdgeV) (L : Nat) (hv : v ≤ 1099511627776) (hall0 : es.all (edgeIn L) = true) (hx : Nat.ble es.length big = true) (k : Ex → St → R) : ∀ (m : Nat) (c : Int) (out : List Nat) (td : List Bool), out.length = L → td.length = L → 0 ≤ c → c + m = v → iterK a22 [0, 1, 6, 7, 8] [6] (codeK T2 a22 l22 Try.f22.ntmps (loopAt Try.f22 0)) (m + 1) ⟨[(0, .fv (.el (.sc (.int .i64 v)))), (1, .fv (.vw (some 1) ⟨.edge, es⟩)), (6, .fv (.own 0)), (7, .fv (.own 1)), (8, .fv (.el (.sc (.int .i64 c))))], [some ⟨29, ⟨.f32, out⟩⟩, some ⟨4, ⟨.bo, td⟩⟩]⟩ k =
    (match rounds es m (out, td) with
    | some s => k (.exit 0) ⟨[(6, .fv (.own 0))], [some ⟨29, ⟨.f32, s.1⟩⟩]⟩
    | none => k .ret ⟨[(4, .fv .nil), (5, .fv (.el (.sc (.bo false))))], []⟩) := by
  intro m
  induction m with
  | zero =>
    intro c out td ho ht h0 hc
    have h1 : ¬ (c < v) := by omega
    rw [st22]
    simp only [h1, decide_false, rounds]
  | succ m ih =>
    intro c out td ho ht h0 hc
    have h1 : c < v := by omega
    have hw : IntKind.i64.wrap (c + 1) = c + 1 := wrap64 (by omega) (by omega)
    have hall : es.all (edgeIn td.length) = true := by rw [ht]; exact hall0
    have hol : Nat.beq out.length td.length = true := by rw [ho, ht]; exact Nat.beq_refl _
    rw [st22, hw]
    simp only [h1, hall, hol, hx, decide_true, Bool.and_self]
    rw [scanE_false]
    unfold rounds
    cases hf : es.find? (half td) with
    | none => simp only [Bool.not_false]
    | some e =>
      simp only [Bool.not_true]
      exact ih (c + 1) (tell (out, td) e).1 (tell (out, td) e).2 (by rw [(tell_len _ _).1]; exact ho) (by rw [(tell_len _ _).2]; exact ht) (by omega) (by omega)

theorem lk22 : LOK T2 a22 l22 Try.f22.ntmps (loopAt Try.f22 0) := by
  intro ins outs hA s k out h
  have hA' : ([0, 1, 6, 7, 8], [6]) = (ins, outs) := Option.some.inj ((show a22.lp (firstRegion (loopAt Try.f22 0)) = some ([0, 1, 6, 7, 8], [6]) by kernel_rfl).symm.trans hA)
  cases hA'
  have hk : firstRegion (loopAt Try.f22 0) = 7 := by kernel_rfl
  rw [hk] at h
  change lp22 s k = some out at h
  unfold lp22 at h
  split at h
  · rename_i v es c out td
    cases hg : (decide (c = 1) && (decide (1 ≤ v ∧ v ≤ 1099511627776) && (es.all (edgeIn td.length) && (Nat.beq out.length td.length && Nat.ble es.length big)))) with
    | false => rw [hg] at h; cases h
    | true =>
      rw [hg] at h
      simp only [Bool.and_eq_true, decide_eq_true_eq] at hg
      obtain ⟨rfl, ⟨hv0, hv1⟩, hall, hol, hx⟩ := hg
      refine ⟨(v - 1).toNat + 1, ?_⟩
      exact (ind22 v es td.length hv1 hall hx k (v - 1).toNat 1 out td (Nat.eq_of_beq_eq_true hol) rfl (by omega) (by omega)).trans h
  · cases h
theorem st22_1 (v : Int) (es : List EdgeV) (c : Int) (fd : Bool) (n : Int) (i : Int) (out : List Nat) (td : List Bool) (m : Nat) (k : Ex → St → R) : iterK a22 [0, 1, 6, 7, 8, 9, 29, 30] [0, 1, 6, 7, 8, 9] (codeK T2 a22 l22 Try.f22.ntmps (loopAt Try.f22 1)) (m + 1) ⟨[(0, .fv (.el (.sc (.int .i64 v)))), (1, .fv (.vw (some 1) ⟨.edge, es⟩)), (6, .fv (.own 0)), (7, .fv (.own 1)), (8, .fv (.el (.sc (.int .i64 c)))), (9, .fv (.el (.sc (.bo fd)))), (29, .fv (.el (.sc (.int .i64 n)))), (30, .fv (.el (.sc (.int .i64 i))))], [some ⟨29, ⟨.f32, out⟩⟩, some ⟨4, ⟨.bo, td⟩⟩]⟩ k = (match (decide ((i : Int) < n) : Bool) with
  | true => (match (decide (0 ≤ (i : Int) ∧ (i : Int) < (es.length : Int)) && true : Bool) with
    | true => (match (fd : Bool) with
      | true => iterK a22 [0, 1, 6, 7, 8, 9, 29, 30] [0, 1, 6, 7, 8, 9] (codeK T2 a22 l22 Try.f22.ntmps (loopAt Try.f22 1)) m ⟨[(0, .fv (.el (.sc (.int .i64 v)))), (1, .fv (.vw (some 1) ⟨.edge, es⟩)), (6, .fv (.own 0)), (7, .fv (.own 1)), (8, .fv (.el (.sc (.int .i64 c)))), (9, .fv (.el (.sc (.bo fd)))), (29, .fv (.el (.sc (.int .i64 n)))), (30, .fv (.el (.sc (.int .i64 (IntKind.i64.wrap (i + 1))))))], [some ⟨29, ⟨.f32, out⟩⟩, some ⟨4, ⟨.bo, td⟩⟩]⟩ k
      | false => (match (es : List EdgeV)[Int.toNat i]? with
        | some x1 => (match (decide (0 ≤ (x1.f : Int) ∧ (x1.f : Int) < (td.length : Int)) && true : Bool) with
          | true => (match (td : List Bool)[Int.toNat x1.f]? with
            | some x2 => (match (es : List EdgeV)[Int.toNat i]? with
              | some x3 => (match (decide (0 ≤ (x3.t : Int) ∧ (x3.t : Int) < (td.length : Int)) && true : Bool) with
                | true => (match (td : List Bool)[Int.toNat x3.t]? with
                  | some x4 => (match (x2 == x4 : Bool) with
                    | true => iterK a22 [0, 1, 6, 7, 8, 9, 29, 30] [0, 1, 6, 7, 8, 9] (codeK T2 a22 l22 Try.f22.ntmps (loopAt Try.f22 1)) m ⟨[(0, .fv (.el (.sc (.int .i64 v)))), (1, .fv (.vw (some 1) ⟨.edge, es⟩)), (6, .fv (.own 0)), (7, .fv (.own 1)), (8, .fv (.el (.sc (.int .i64 c)))), (9, .fv (.el (.sc (.bo fd)))), (29, .fv (.el (.sc (.int .i64 n)))), (30, .fv (.el (.sc (.int .i64 (IntKind.i64.wrap (i + 1))))))], [some ⟨29, ⟨.f32, out⟩⟩, some ⟨4, ⟨.bo, td⟩⟩]⟩ k
                    | false => (match (es : List EdgeV)[Int.toNat i]? with
                      | some x5 => (match (decide (0 ≤ (x5.f : Int) ∧ (x5.f : Int) < (td.length : Int)) && true : Bool) with
                        | true => (match (td : List Bool)[Int.toNat x5.f]? with
                          | some x6 => (match (x6 : Bool) with
                            | true => (match (es : List EdgeV)[Int.toNat i]? with
                              | some x7 => (match (es : List EdgeV)[Int.toNat i]? with
                                | some x8 => (match (decide (0 ≤ (x8.f : Int) ∧ (x8.f : Int) < (out.length : Int)) && true : Bool) with
                                  | true => (match (out : List Nat)[Int.toNat x8.f]? with
                                    | some x9 => (match (es : List EdgeV)[Int.toNat i]? with
                                      | some x10 => (match (decide (0 ≤ (x7.t : Int) ∧ (x7.t : Int) < (out.length : Int)) && true : Bool) with
                                        | true => (match (out : List Nat)[Int.toNat x7.t]? with
                                          | some x11 => (match (es : List EdgeV)[Int.toNat i]? with
                                            | some x12 => (match (decide (0 ≤ (x12.t : Int) ∧ (x12.t : Int) < (td.length : Int)) && true : Bool) with
                                              | true => (match (td : List Bool)[Int.toNat x12.t]? with
                                                | some x13 => iterK a22 [0, 1, 6, 7, 8, 9, 29, 30] [0, 1, 6, 7, 8, 9] (codeK T2 a22 l22 Try.f22.ntmps (loopAt Try.f22 1)) m ⟨[(0, .fv (.el (.sc (.int .i64 v)))), (1, .fv (.vw (some 1) ⟨.edge, es⟩)), (6, .fv (.own 0)), (7, .fv (.own 1)), (8, .fv (.el (.sc (.int .i64 c)))), (9, .fv (.el (.sc (.bo true)))), (29, .fv (.el (.sc (.int .i64 n)))), (30, .fv (.el (.sc (.int .i64 (IntKind.i64.wrap (i + 1))))))], [some ⟨29, ⟨.f32, (out : List Nat).set (Int.toNat x7.t) (fop .add .f32 x9 x10.p)⟩⟩, some ⟨4, ⟨.bo, (td : List Bool).set (Int.toNat x12.t) true⟩⟩]⟩ k
                                                | none => none)
                                              | false => none)
                                            | none => none)
                                          | none => none)
                                        | false => none)
                                      | none => none)
                                    | none => none)
                                  | false => none)
                                | none => none)
                              | none => none)
                            | false => (match (es : List EdgeV)[Int.toNat i]? with
                              | some x14 => (match (es : List EdgeV)[Int.toNat i]? with
                                | some x15 => (match (decide (0 ≤ (x15.t : Int) ∧ (x15.t : Int) < (out.length : Int)) && true : Bool) with
                                  | true => (match (out : List Nat)[Int.toNat x15.t]? with
                                    | some x16 => (match (es : List EdgeV)[Int.toNat i]? with
                                      | some x17 => (match (decide (0 ≤ (x14.f : Int) ∧ (x14.f : Int) < (out.length : Int)) && true : Bool) with
                                        | true => (match (out : List Nat)[Int.toNat x14.f]? with
                                          | some x18 => (match (es : List EdgeV)[Int.toNat i]? with
                                            | some x19 => (match (decide (0 ≤ (x19.f : Int) ∧ (x19.f : Int) < (td.length : Int)) && true : Bool) with
                                              | true => (match (td : List Bool)[Int.toNat x19.f]? with
                                                | some x20 => iterK a22 [0, 1, 6, 7, 8, 9, 29, 30] [0, 1, 6, 7, 8, 9] (codeK T2 a22 l22 Try.f22.ntmps (loopAt Try.f22 1)) m ⟨[(0, .fv (.el (.sc (.int .i64 v)))), (1, .fv (.vw (some 1) ⟨.edge, es⟩)), (6, .fv (.own 0)), (7, .fv (.own 1)), (8, .fv (.el (.sc (.int .i64 c)))), (9, .fv (.el (.sc (.bo true)))), (29, .fv (.el (.sc (.int .i64 n)))), (30, .fv (.el (.sc (.int .i64 (IntKind.i64.wrap (i + 1))))))], [some ⟨29, ⟨.f32, (out : List Nat).set (Int.toNat x14.f) (fop .sub .f32 x16 x17.p)⟩⟩, some ⟨4, ⟨.bo, (td : List Bool).set (Int.toNat x19.f) true⟩⟩]⟩ k
                                                | none => none)
                                              | false => none)
                                            | none => none)
                                          | none => none)
                                        | false => none)
                                      | none => none)
                                    | none => none)
                                  | false => none)
                                | none => none)
                              | none => none))
                          | none => none)
                        | false => none)
                      | none => none))
                  | none => none)
                | false => none)
              | none => none)
            | none => none)
          | false => none)
        | none => none))
    | false => none)
  | false => k (.exit 2) ⟨[(0, .fv (.el (.sc (.int .i64 v)))), (1, .fv (.vw (some 1) ⟨.edge, es⟩)), (6, .fv (.own 0)), (7, .fv (.own 1)), (8, .fv (.el (.sc (.int .i64 c)))), (9, .fv (.el (.sc (.bo fd))))], [some ⟨29, ⟨.f32, out⟩⟩, some ⟨4, ⟨.bo, td⟩⟩]⟩) := by kernel_rfl
theorem ind22_1 (v c : Int) (es : List EdgeV) (L : Nat) (hall0 : es.all (edgeIn L) = true) (hx : Nat.ble es.length big = true) (k : Ex → St → R) : ∀ (m j : Nat) (fd : Bool) (out : List Nat) (td : List Bool), out.length = L → td.length = L → j + m = es.length → iterK a22 [0, 1, 6, 7, 8, 9, 29, 30] [0, 1, 6, 7, 8, 9] (codeK T2 a22 l22 Try.f22.ntmps (loopAt Try.f22 1)) (m + 1) ⟨[(0, .fv (.el (.sc (.int .i64 v)))), (1, .fv (.vw (some 1) ⟨.edge, es⟩)), (6, .fv (.own 0)), (7, .fv (.own 1)), (8, .fv (.el (.sc (.int .i64 c)))), (9, .fv (.el (.sc (.bo fd)))), (29, .fv (.el (.sc (.int .i64 (es.length : Int))))), (30, .fv (.el (.sc (.int .i64 (j : Int)))))], [some ⟨29, ⟨.f32, out⟩⟩, some ⟨4, ⟨.bo, td⟩⟩]⟩ k =
    k (.exit 2) ⟨[(0, .fv (.el (.sc (.int .i64 v)))), (1, .fv (.vw (some 1) ⟨.edge, es⟩)), (6, .fv (.own 0)), (7, .fv (.own 1)), (8, .fv (.el (.sc (.int .i64 c)))), (9, .fv (.el (.sc (.bo (scanE (es.drop j) (fd, out, td)).1))))], [some ⟨29, ⟨.f32, (scanE (es.drop j) (fd, out, td)).2.1⟩⟩, some ⟨4, ⟨.bo, (scanE (es.drop j) (fd, out, td)).2.2⟩⟩]⟩ := by
  intro m
  induction m with
  | zero =>
    intro j fd out td ho ht hj
    have h1 : ¬ ((j : Int) < (es.length : Int)) := by omega
    rw [st22_1, List.drop_of_length_le (show es.length ≤ j by omega)]
    simp only [h1, decide_false]
    rfl
  | succ m ih =>
    intro j fd out td ho ht hj
    have hlt : j < es.length := by omega
    have h1 : ((j : Int) < (es.length : Int)) := by omega
    have h2 : (0 : Int) ≤ (j : Int) := by omega
    rw [st22_1, wrap_succ hlt hx]
    have h3 : es[Int.toNat (j : Int)]? = some es[j] := by simp [hlt]
    have hall : es.all (edgeIn td.length) = true := by rw [ht]; exact hall0
    have hq : edgeIn td.length es[j] = true := List.all_eq_true.1 hall es[j] (List.getElem_mem hlt)
    obtain ⟨f0, f1⟩ := edgeIn_f hq
    obtain ⟨t0, t1⟩ := edgeIn_t hq
    have f2 : es[j].f < (out.length : Int) := by omega
    have t2 : es[j].t < (out.length : Int) := by omega
    have e1 : td[Int.toNat es[j].f]? = some (td.getD es[j].f.toNat false) := getB (by omega)
    have e2 : td[Int.toNat es[j].t]? = some (td.getD es[j].t.toNat false) := getB (by omega)
    have o1 : out[Int.toNat es[j].f]? = some (out.getD es[j].f.toNat 0) := getq (by omega)
    have o2 : out[Int.toNat es[j].t]? = some (out.getD es[j].t.toNat 0) := getq (by omega)
    rw [List.drop_eq_getElem_cons hlt]
    have hs := ih (j + 1) (scanS (fd, out, td) es[j]).1 (scanS (fd, out, td) es[j]).2.1 (scanS (fd, out, td) es[j]).2.2 (by rw [scanS_len.1]; exact ho) (by rw [scanS_len.2]; exact ht) (by omega)
    show _ = k (.exit 2) ⟨[(0, .fv (.el (.sc (.int .i64 v)))), (1, .fv (.vw (some 1) ⟨.edge, es⟩)), (6, .fv (.own 0)), (7, .fv (.own 1)), (8, .fv (.el (.sc (.int .i64 c)))), (9, .fv (.el (.sc (.bo (scanE (es.drop (j + 1)) (scanS (fd, out, td) es[j])).1))))], [some ⟨29, ⟨.f32, (scanE (es.drop (j + 1)) (scanS (fd, out, td) es[j])).2.1⟩⟩, some ⟨4, ⟨.bo, (scanE (es.drop (j + 1)) (scanS (fd, out, td) es[j])).2.2⟩⟩]⟩
    rw [← hs]
    simp only [h1, h2, h3, f0, f1, f2, t0, t1, t2, e1, e2, o1, o2, and_self, decide_true, Bool.and_true]
    unfold scanS half tell
    cases fd with
    | true => rfl
    | false => cases hf : td.getD es[j].f.toNat false <;> cases hg : td.getD es[j].t.toNat false <;> simp [hf, hg]

theorem lk22_1 : LOK T2 a22 l22 Try.f22.ntmps (loopAt Try.f22 1) := by
  intro ins outs hA s k out h
  have hA' : ([0, 1, 6, 7, 8, 9, 29, 30], [0, 1, 6, 7, 8, 9]) = (ins, outs) := Option.some.inj ((show a22.lp (firstRegion (loopAt Try.f22 1)) = some ([0, 1, 6, 7, 8, 9, 29, 30], [0, 1, 6, 7, 8, 9]) by kernel_rfl).symm.trans hA)
  cases hA'
  have hk : firstRegion (loopAt Try.f22 1) = 11 := by kernel_rfl
  rw [hk] at h
  change lp22_1 s k = some out at h
  unfold lp22_1 at h
  split at h
  · rename_i v es c fd n i out td
    cases hg : (decide (n = (es.length : Int)) && (decide (i = 0) && (es.all (edgeIn td.length) && (Nat.beq out.length td.length && Nat.ble es.length big)))) with
    | false => rw [hg] at h; cases h
    | true =>
      rw [hg] at h
      simp only [Bool.and_eq_true, decide_eq_true_eq] at hg
      obtain ⟨rfl, rfl, hall, hol, hx⟩ := hg
      refine ⟨es.length + 1, ?_⟩
      have hh := ind22_1 v c es td.length hall hx k es.length 0 fd out td (Nat.eq_of_beq_eq_true hol) rfl (by omega)
      simp only [List.drop_zero] at hh
      exact hh.trans h
  · cases h
theorem st22_2 (n : Int) (i : Int) (zs : List Nat) (m : Nat) (k : Ex → St → R) : iterK a22 [6, 113, 114] [6] (codeK T2 a22 l22 Try.f22.ntmps (loopAt Try.f22 2)) (m + 1) ⟨[(6, .fv (.own 0)), (113, .fv (.el (.sc (.int .i64 n)))), (114, .fv (.el (.sc (.int .i64 i))))], [some ⟨29, ⟨.f32, zs⟩⟩]⟩ k = (match (decide ((i : Int) < n) : Bool) with
  | true => (match (decide (0 ≤ (i : Int) ∧ (i : Int) < (zs.length : Int)) && true : Bool) with
    | true => (match (zs : List Nat)[Int.toNat i]? with
      | some x1 => (match (!(fin x1) : Bool) with
        | true => k .ret ⟨[(4, .fv (.nil)), (5, .fv (.el (.sc (.bo false))))], []⟩
        | false => iterK a22 [6, 113, 114] [6] (codeK T2 a22 l22 Try.f22.ntmps (loopAt Try.f22 2)) m ⟨[(6, .fv (.own 0)), (113, .fv (.el (.sc (.int .i64 n)))), (114, .fv (.el (.sc (.int .i64 (IntKind.i64.wrap (i + 1))))))], [some ⟨29, ⟨.f32, zs⟩⟩]⟩ k)
      | none => none)
    | false => none)
  | false => k (.exit 4) ⟨[(6, .fv (.own 0))], [some ⟨29, ⟨.f32, zs⟩⟩]⟩) := by kernel_rfl
theorem ind22_2 (zs : List Nat) (hx : Nat.ble zs.length big = true) (k : Ex → St → R) : ∀ (m j : Nat), j + m = zs.length → iterK a22 [6, 113, 114] [6] (codeK T2 a22 l22 Try.f22.ntmps (loopAt Try.f22 2)) (m + 1) ⟨[(6, .fv (.own 0)), (113, .fv (.el (.sc (.int .i64 (zs.length : Int))))), (114, .fv (.el (.sc (.int .i64 (j : Int)))))], [some ⟨29, ⟨.f32, zs⟩⟩]⟩ k =
    (match (zs.drop j).all fin with
    | true => k (.exit 4) ⟨[(6, .fv (.own 0))], [some ⟨29, ⟨.f32, zs⟩⟩]⟩
    | false => k .ret ⟨[(4, .fv (.nil)), (5, .fv (.el (.sc (.bo false))))], []⟩) := by
  intro m
  induction m with
  | zero =>
    intro j hj
    have h1 : ¬ ((j : Int) < (zs.length : Int)) := by omega
    rw [st22_2, List.drop_of_length_le (show zs.length ≤ j by omega)]
    simp [h1]
  | succ m ih =>
    intro j hj
    have hlt : j < zs.length := by omega
    have h1 : ((j : Int) < (zs.length : Int)) := by omega
    have h2 : (0 : Int) ≤ (j : Int) := by omega
    rw [st22_2, wrap_succ hlt hx]
    have h3 : zs[Int.toNat (j : Int)]? = some zs[j] := by simp [hlt]
    rw [List.drop_eq_getElem_cons hlt, List.all_cons]
    simp only [h1, h2, h3, and_self, decide_true, Bool.and_true]
    cases hp : fin zs[j] with
    | true =>
      simp only [Bool.not_true, Bool.true_and]
      exact ih (j + 1) (by omega)
    | false => simp

theorem lk22_2 : LOK T2 a22 l22 Try.f22.ntmps (loopAt Try.f22 2) := by
  intro ins outs hA s k out h
  have hA' : ([6, 113, 114], [6]) = (ins, outs) := Option.some.inj ((show a22.lp (firstRegion (loopAt Try.f22 2)) = some ([6, 113, 114], [6]) by kernel_rfl).symm.trans hA)
  cases hA'
  have hk : firstRegion (loopAt Try.f22 2) = 25 := by kernel_rfl
  rw [hk] at h
  change lp22_2 s k = some out at h
  unfold lp22_2 at h
  split at h
  · rename_i n i zs
    cases hg : (decide (n = (zs.length : Int)) && (decide (i = 0) && Nat.ble zs.length big)) with
    | false => rw [hg] at h; cases h
    | true =>
      rw [hg] at h
      simp only [Bool.and_eq_true, decide_eq_true_eq] at hg
      obtain ⟨rfl, rfl, hx⟩ := hg
      refine ⟨zs.length + 1, ?_⟩
      have hh := ind22_2 zs hx k zs.length 0 (by omega)
      simp only [List.drop_zero] at hh
      exact hh.trans h
  · cases h
theorem e22 (v : Int) (es : List EdgeV) : runFn T2 a22 l22 Try.f22 [.el (.sc (.int .i64 v)), .vw none ⟨.edge, es⟩] = (match (!((within v 1 12 && decide (es.length ≤ 32)) && es.all (edgeOk v)) : Bool) with
  | true => some ⟨[.nil, .el (.sc (.bo false))], none⟩
  | false => (match (decide (0 ≤ (v : Int) ∧ (v : Int) = v ∧ (v : Int) ≤ 1099511627776) : Bool) with
    | true => (match (decide (0 ≤ (v : Int) ∧ (v : Int) = v ∧ (v : Int) ≤ 1099511627776) : Bool) with
      | true => (match (decide (0 ≤ (0 : Int) ∧ (0 : Int) < ((List.replicate (Int.toNat v) ((false : Bool))).length : Int)) && true : Bool) with
        | true => (match (List.replicate (Int.toNat v) ((false : Bool)) : List Bool)[Int.toNat 0]? with
          | some x1 => (match ((decide (1 = 1) && (decide (1 ≤ v ∧ v ≤ 1099511627776) && (es.all (edgeIn (((List.replicate (Int.toNat v) ((false : Bool)) : List Bool).set (Int.toNat 0) true : List Bool)).length) && (Nat.beq ((List.replicate (Int.toNat v) ((0 : Nat)) : List Nat)).length (((List.replicate (Int.toNat v) ((false : Bool)) : List Bool).set (Int.toNat 0) true : List Bool)).length && Nat.ble es.length big)))) : Bool) with
            | true => (match rounds es (v - 1).toNat ((List.replicate (Int.toNat v) ((0 : Nat)) : List Nat), ((List.replicate (Int.toNat v) ((false : Bool)) : List Bool).set (Int.toNat 0) true : List Bool)) with
              | some s => (match ((decide ((s.1.length : Int) = ((s.1 : List Nat).length : Int)) && (decide (0 = 0) && Nat.ble (s.1 : List Nat).length big)) : Bool) with
                | true => (match ((s.1 : List Nat).all fin : Bool) with
                  | true => some ⟨[.fresh 29 ⟨.f32, s.1⟩, .el (.sc (.bo true))], none⟩
                  | false => some ⟨[.nil, .el (.sc (.bo false))], none⟩)
                | false => none)
              | none => some ⟨[.nil, .el (.sc (.bo false))], none⟩)
            | false => none)
          | none => none)
        | false => none)
      | false => none)
    | false => none)) := by kernel_rfl
theorem s22 (v : Int) (es : List EdgeV) : runFn T2 a22 l22 Try.f22 [.el (.sc (.int .i64 v)), .vw none ⟨.edge, es⟩] = (match (elOk v es : Bool) with
  | true => some ⟨[.fresh 29 ⟨.f32, elList v es⟩, .el (.sc (.bo true))], none⟩
  | false => some ⟨[.nil, .el (.sc (.bo false))], none⟩) := by
  rw [e22]
  cases ho : edgesOk v es with
  | false =>
    unfold elOk
    rw [ho]
    unfold edgesOk at ho
    rw [ho]
    rfl
  | true =>
  obtain ⟨hin, v1, v2, hl⟩ := edgesOk_in ho
  have hb : Nat.ble es.length big = true := big_of (by omega)
  have d1 : 0 ≤ v ∧ v ≤ 1099511627776 := by omega
  have d2 : 0 ≤ v ∧ v = v ∧ v ≤ 1099511627776 := by omega
  have d3 : (0 : Int) ≤ 0 ∧ (0 : Int) < ((List.replicate (Int.toNat v) false).length : Int) := by rw [List.length_replicate]; omega
  have d4 : (List.replicate (Int.toNat v) false)[Int.toNat 0]? = some false := by rw [List.getElem?_replicate, if_pos (by omega)]
  have hin2 : es.all (edgeIn ((List.replicate (Int.toNat v) false).set (Int.toNat 0) true).length) = true := by rw [List.length_set, List.length_replicate]; exact hin
  have hol : Nat.beq (List.replicate (Int.toNat v) (0 : Nat)).length ((List.replicate (Int.toNat v) false).set (Int.toNat 0) true).length = true := by rw [List.length_set, List.length_replicate, List.length_replicate]; exact Nat.beq_refl _
  have hvv : 1 ≤ v ∧ v ≤ 1099511627776 := by omega
  have hst : (List.replicate (Int.toNat v) (0 : Nat), (List.replicate (Int.toNat v) false).set (Int.toNat 0) true) = elStart v := rfl
  unfold edgesOk at ho
  simp only [ho, hb, d2, d3, d4, hin2, hol, hvv, hst, and_self, decide_true, Bool.and_true, Bool.not_true, Bool.and_self]
  unfold elOk elList elRun edgesOk
  rw [ho]
  cases hr : rounds es (v - 1).toNat (elStart v) with
  | none => rfl
  | some s =>
    have hsl := (rounds_len es _ _ _ hr).1
    rw [(elStart_len v).1] at hsl
    have hb2 : Nat.ble s.1.length big = true := big_of (by omega)
    dsimp only
    simp only [hb2, decide_true, Bool.and_self, Bool.true_and]
    all_goals (cases s.1.all fin <;> rfl)
theorem c22 (v : Int) (es : List EdgeV) (k : List RV → R) (out : Out) (h : k [.fresh 29 ⟨.f32, orNil (elOk v es) (elList v es)⟩, .el (.sc (.bo (elOk v es)))] = some out) : ∃ rs, Real Try.prog 22 ∧ COK Try.prog 22 [.el (.sc (.int .i64 v)), .vw none ⟨.edge, es⟩] rs ∧ k rs = some out := by
  cases g0 : (elOk v es : Bool) with
  | true =>
    rw [g0] at h
    exact ⟨_, real Try.func22 (by kernel_rfl), fn_ok tok2 (A := a22) (L := l22) (r := none) Try.func22 (by kernel_rfl) (by kernel_rfl) (loops3 (by kernel_rfl) lk22 lk22_1 lk22_2) (by rw [s22, g0]; rfl), h⟩
  | false =>
    rw [g0] at h
    exact ⟨_, real Try.func22 (by kernel_rfl), COK.nil (fn_ok tok2 (A := a22) (L := l22) (r := none) Try.func22 (by kernel_rfl) (by kernel_rfl) (loops3 (by kernel_rfl) lk22 lk22_1 lk22_2) (by rw [s22, g0] <;> rfl)), h⟩

/-! laws.eqEdgeS -/
def a25 : Ann := ann [(4, [0, 1, 5], [])] [4] 0
def lp25 : St → (Ex → St → R) → R := fun s k => match s with
  | ⟨[(0, .fv (.vw (some 0) ⟨.edge, xs⟩)), (1, .fv (.vw (some 1) ⟨.edge, ys⟩)), (5, .fv (.el (.sc (.int .i64 i))))], []⟩ => (match (decide (i = 0) && (Nat.beq xs.length ys.length && Nat.ble xs.length big) : Bool) with
    | true => (match (all2 eqEdgeF xs ys : Bool) with
      | true => k (.exit 0) ⟨[], []⟩
      | false => k .ret ⟨[(4, .fv (.el (.sc (.bo false))))], []⟩)
    | false => none)
  | _ => none
def l25 : Loops := fun key s k => bif Nat.beq key 4 then lp25 s k else none
theorem st25 (xs : List EdgeV) (ys : List EdgeV) (i : Int) (m : Nat) (k : Ex → St → R) : iterK a25 [0, 1, 5] [] (codeK T2 a25 l25 Try.f25.ntmps (loopAt Try.f25 0)) (m + 1) ⟨[(0, .fv (.vw (some 0) ⟨.edge, xs⟩)), (1, .fv (.vw (some 1) ⟨.edge, ys⟩)), (5, .fv (.el (.sc (.int .i64 i))))], []⟩ k = (match (decide ((i : Int) < (xs.length : Int)) : Bool) with
  | true => (match (decide (0 ≤ (i : Int) ∧ (i : Int) < (xs.length : Int)) && true : Bool) with
    | true => (match (xs : List EdgeV)[Int.toNat i]? with
      | some x1 => (match (decide (0 ≤ (i : Int) ∧ (i : Int) < (ys.length : Int)) && true : Bool) with
        | true => (match (ys : List EdgeV)[Int.toNat i]? with
          | some x2 => (match (!(eqEdgeF x1 x2) : Bool) with
            | true => k .ret ⟨[(4, .fv (.el (.sc (.bo false))))], []⟩
            | false => iterK a25 [0, 1, 5] [] (codeK T2 a25 l25 Try.f25.ntmps (loopAt Try.f25 0)) m ⟨[(0, .fv (.vw (some 0) ⟨.edge, xs⟩)), (1, .fv (.vw (some 1) ⟨.edge, ys⟩)), (5, .fv (.el (.sc (.int .i64 (IntKind.i64.wrap (i + 1))))))], []⟩ k)
          | none => none)
        | false => none)
      | none => none)
    | false => none)
  | false => k (.exit 0) ⟨[], []⟩) := by kernel_rfl
theorem ind25 (xs ys : List EdgeV) (hl : xs.length = ys.length) (hx : Nat.ble xs.length big = true) (k : Ex → St → R) : ∀ (m j : Nat), j + m = xs.length → iterK a25 [0, 1, 5] [] (codeK T2 a25 l25 Try.f25.ntmps (loopAt Try.f25 0)) (m + 1) ⟨[(0, .fv (.vw (some 0) ⟨.edge, xs⟩)), (1, .fv (.vw (some 1) ⟨.edge, ys⟩)), (5, .fv (.el (.sc (.int .i64 (j : Int)))))], []⟩ k =
    (match all2 eqEdgeF (xs.drop j) (ys.drop j) with
    | true => k (.exit 0) ⟨[], []⟩
    | false => k .ret ⟨[(4, .fv (.el (.sc (.bo false))))], []⟩) := by
  intro m
  induction m with
  | zero =>
    intro j hj
    have h1 : ¬ ((j : Int) < (xs.length : Int)) := by omega
    rw [st25, List.drop_of_length_le (by omega)]
    simp [h1, all2]
  | succ m ih =>
    intro j hj
    have hlt : j < xs.length := by omega
    have hlt2 : j < ys.length := by omega
    have h1 : ((j : Int) < (xs.length : Int)) := by omega
    have h12 : ((j : Int) < (ys.length : Int)) := by omega
    have h2 : (0 : Int) ≤ (j : Int) := by omega
    rw [st25, wrap_succ hlt hx]
    have h3 : xs[Int.toNat (j : Int)]? = some xs[j] := by simp [hlt]
    have h4 : ys[Int.toNat (j : Int)]? = some ys[j] := by simp [hlt2]
    rw [List.drop_eq_getElem_cons hlt, List.drop_eq_getElem_cons hlt2, ih (j + 1) (by omega)]
    simp only [h1, h12, h2, h3, h4, and_self, decide_true, Bool.and_true, all2]
    cases hp : eqEdgeF xs[j] ys[j] <;> simp

theorem lk25 : LOK T2 a25 l25 Try.f25.ntmps (loopAt Try.f25 0) := by
  intro ins outs hA s k out h
  have hA' : ([0, 1, 5], []) = (ins, outs) := Option.some.inj ((show a25.lp (firstRegion (loopAt Try.f25 0)) = some ([0, 1, 5], []) by kernel_rfl).symm.trans hA)
  cases hA'
  have hk : firstRegion (loopAt Try.f25 0) = 4 := by kernel_rfl
  rw [hk] at h
  change lp25 s k = some out at h
  unfold lp25 at h
  split at h
  · rename_i xs ys i
    cases hg : (decide (i = 0) && (Nat.beq xs.length ys.length && Nat.ble xs.length big)) with
    | false => rw [hg] at h; cases h
    | true =>
      rw [hg] at h
      simp only [Bool.and_eq_true, decide_eq_true_eq] at hg
      obtain ⟨rfl, hl, hx⟩ := hg
      refine ⟨xs.length + 1, ?_⟩
      exact (ind25 xs ys (Nat.eq_of_beq_eq_true hl) hx k xs.length 0 (by omega)).trans h
  · cases h
theorem e25 (xs : List EdgeV) (ys : List EdgeV) : runFn T2 a25 l25 Try.f25 [.vw none ⟨.edge, xs⟩, .vw none ⟨.edge, ys⟩] = (match (!(((xs.length : Int) : Int) == (ys.length : Int)) : Bool) with
  | true => some ⟨[.el (.sc (.bo false))], none⟩
  | false => (match (decide (0 = 0) && (Nat.beq xs.length ys.length && Nat.ble xs.length big) : Bool) with
    | true => (match (all2 eqEdgeF xs ys : Bool) with
      | true => some ⟨[.el (.sc (.bo true))], none⟩
      | false => some ⟨[.el (.sc (.bo false))], none⟩)
    | false => none)) := by kernel_rfl
theorem s25 (xs : List EdgeV) (ys : List EdgeV) : runFn T2 a25 l25 Try.f25 [.vw none ⟨.edge, xs⟩, .vw none ⟨.edge, ys⟩] = (match (Nat.beq xs.length ys.length : Bool) with
  | true => (match (Nat.ble xs.length big : Bool) with
    | true => some ⟨[.el (.sc (.bo (all2 eqEdgeF xs ys)))], none⟩
    | false => none)
  | false => some ⟨[.el (.sc (.bo false))], none⟩) := by
  rw [e25]
  cases hl : Nat.beq xs.length ys.length with
  | false =>
    have h1 : xs.length ≠ ys.length := fun e => by rw [e, Nat.beq_refl] at hl; cases hl
    have h2 : ((xs.length : Int) == (ys.length : Int)) = false := beq_false_of_ne (by omega)
    simp only [h2, Bool.not_false]
  | true =>
    have h1 := Nat.eq_of_beq_eq_true hl
    have h2 : ((xs.length : Int) == (ys.length : Int)) = true := beq_iff_eq.2 (by omega)
    simp only [h2, Bool.not_true]
    cases h : Nat.ble xs.length big with
    | false => simp
    | true => cases h3 : all2 eqEdgeF xs ys <;> simp
theorem c25 (xs : List EdgeV) (ys : List EdgeV) (k : List RV → R) (out : Out) (h : (match (Nat.beq xs.length ys.length : Bool) with
  | true => (match (Nat.ble xs.length big : Bool) with
    | true => k [.el (.sc (.bo (all2 eqEdgeF xs ys)))]
    | false => none)
  | false => k [.el (.sc (.bo false))]) = some out) : ∃ rs, Real Try.prog 25 ∧ COK Try.prog 25 [.vw none ⟨.edge, xs⟩, .vw none ⟨.edge, ys⟩] rs ∧ k rs = some out := by
  cases g0 : (Nat.beq xs.length ys.length : Bool) with
  | true =>
    rw [g0] at h
    cases g1 : (Nat.ble xs.length big : Bool) with
    | true =>
      rw [g1] at h
      exact ⟨_, real Try.func25 (by kernel_rfl), fn_ok tok2 (A := a25) (L := l25) (r := none) Try.func25 (by kernel_rfl) (by kernel_rfl) (loops1 (by kernel_rfl) lk25) (by rw [s25, g0, g1]), h⟩
    | false =>
      rw [g1] at h
      cases h
  | false =>
    rw [g0] at h
    exact ⟨_, real Try.func25 (by kernel_rfl), fn_ok tok2 (A := a25) (L := l25) (r := none) Try.func25 (by kernel_rfl) (by kernel_rfl) (loops1 (by kernel_rfl) lk25) (by rw [s25, g0]), h⟩

/-! slices.IndexFunc[[]impl.Edge,impl.Edge] -/
def a48 : Ann := ann [(2, [0, 1, 7, 8], [])] [4] 0
def lp48 : St → (Ex → St → R) → R := fun s k => match s with
  | ⟨[(0, .fv (.vw (some 0) ⟨.edge, xs⟩)), (1, .fv (.fn 66 [⟨.v ⟨.i64, [v]⟩, 1, 0, 0⟩])), (7, .fv (.el (.sc (.int .i64 n)))), (8, .fv (.el (.sc (.int .i64 i))))], []⟩ => (match (decide (n = (xs.length : Int)) && (decide (i = 0) && Nat.ble xs.length big) : Bool) with
    | true => (match xs.findIdx? (notEdge v) with
      | some q => k .ret ⟨[(4, .fv (.el (.sc (.int .i64 ((q : Int))))))], []⟩
      | none => k (.exit 0) ⟨[], []⟩)
    | false => none)
  | _ => none
def l48 : Loops := fun key s k => bif Nat.beq key 2 then lp48 s k else none
theorem st48 (xs : List EdgeV) (v : Int) (n : Int) (i : Int) (m : Nat) (k : Ex → St → R) : iterK a48 [0, 1, 7, 8] [] (codeK T2 a48 l48 Try.f48.ntmps (loopAt Try.f48 0)) (m + 1) ⟨[(0, .fv (.vw (some 0) ⟨.edge, xs⟩)), (1, .fv (.fn 66 [⟨.v ⟨.i64, [v]⟩, 1, 0, 0⟩])), (7, .fv (.el (.sc (.int .i64 n)))), (8, .fv (.el (.sc (.int .i64 i))))], []⟩ k = (match (decide ((i : Int) < n) : Bool) with
  | true => (match (decide (0 ≤ (i : Int) ∧ (i : Int) < (xs.length : Int)) && true : Bool) with
    | true => (match (xs : List EdgeV)[Int.toNat i]? with
      | some x1 => (match (notEdge v x1 : Bool) with
        | true => k .ret ⟨[(4, .fv (.el (.sc (.int .i64 i))))], []⟩
        | false => iterK a48 [0, 1, 7, 8] [] (codeK T2 a48 l48 Try.f48.ntmps (loopAt Try.f48 0)) m ⟨[(0, .fv (.vw (some 0) ⟨.edge, xs⟩)), (1, .fv (.fn 66 [⟨.v ⟨.i64, [v]⟩, 1, 0, 0⟩])), (7, .fv (.el (.sc (.int .i64 n)))), (8, .fv (.el (.sc (.int .i64 (IntKind.i64.wrap (i + 1))))))], []⟩ k)
      | none => none)
    | false => none)
  | false => k (.exit 0) ⟨[], []⟩) := by kernel_rfl
theorem ind48 (xs : List EdgeV) (v : Int) (hx : Nat.ble xs.length big = true) (k : Ex → St → R) : ∀ (m j : Nat), j + m = xs.length → iterK a48 [0, 1, 7, 8] [] (codeK T2 a48 l48 Try.f48.ntmps (loopAt Try.f48 0)) (m + 1) ⟨[(0, .fv (.vw (some 0) ⟨.edge, xs⟩)), (1, .fv (.fn 66 [⟨.v ⟨.i64, [v]⟩, 1, 0, 0⟩])), (7, .fv (.el (.sc (.int .i64 (xs.length : Int))))), (8, .fv (.el (.sc (.int .i64 (j : Int)))))], []⟩ k =
    (match (xs.drop j).findIdx? (notEdge v) with
    | some q => k .ret ⟨[(4, .fv (.el (.sc (.int .i64 ((j + q : Nat) : Int)))))], []⟩
    | none => k (.exit 0) ⟨[], []⟩) := by
  intro m
  induction m with
  | zero =>
    intro j hj
    have h1 : ¬ ((j : Int) < (xs.length : Int)) := by omega
    rw [st48]
    have h2 : xs.drop j = [] := List.drop_of_length_le (by omega)
    simp [h1, h2]
  | succ m ih =>
    intro j hj
    have hlt : j < xs.length := by omega
    have h1 : ((j : Int) < (xs.length : Int)) := by omega
    have h2 : (0 : Int) ≤ (j : Int) := by omega
    rw [st48, wrap_succ hlt hx]
    have h3 : xs[Int.toNat (j : Int)]? = some xs[j] := by simp [hlt]
    rw [List.drop_eq_getElem_cons hlt, List.findIdx?_cons]
    simp only [h1, h2, h3, and_self, decide_true, Bool.and_true]
    cases hp : (notEdge v) xs[j] with
    | true => simp
    | false =>
      rw [ih (j + 1) (by omega)]
      cases (xs.drop (j + 1)).findIdx? (notEdge v) with
      | none => rfl
      | some q => simp only [Bool.false_eq_true, if_false, Option.map_some]; rw [show j + 1 + q = j + (q + 1) by omega]
theorem lk48 : LOK T2 a48 l48 Try.f48.ntmps (loopAt Try.f48 0) := by
  intro ins outs hA s k out h
  have hA' : ([0, 1, 7, 8], []) = (ins, outs) := Option.some.inj ((show a48.lp (firstRegion (loopAt Try.f48 0)) = some ([0, 1, 7, 8], []) by kernel_rfl).symm.trans hA)
  cases hA'
  have hk : firstRegion (loopAt Try.f48 0) = 2 := by kernel_rfl
  rw [hk] at h
  change lp48 s k = some out at h
  unfold lp48 at h
  split at h
  · rename_i xs v n i
    cases hg : (decide (n = (xs.length : Int)) && (decide (i = 0) && Nat.ble xs.length big)) with
    | false => rw [hg] at h; cases h
    | true =>
      rw [hg] at h
      simp only [Bool.and_eq_true, decide_eq_true_eq] at hg
      obtain ⟨rfl, rfl, hx⟩ := hg
      refine ⟨xs.length + 1, ?_⟩
      have := ind48 xs v hx k xs.length 0 (by omega)
      simp only [List.drop_zero, Nat.zero_add] at this
      exact this.trans h
  · cases h
theorem e48 (xs : List EdgeV) (v : Int) : runFn T2 a48 l48 Try.f48 [.vw none ⟨.edge, xs⟩, .fn 66 [⟨.v ⟨.i64, [v]⟩, 1, 0, 0⟩]] = (match (decide ((xs.length : Int) = (xs.length : Int)) && (decide (0 = 0) && Nat.ble xs.length big) : Bool) with
  | true => (match xs.findIdx? (notEdge v) with
    | some q => some ⟨[.el (.sc (.int .i64 ((q : Int))))], none⟩
    | none => some ⟨[.el (.sc (.int .i64 ((-1))))], none⟩)
  | false => none) := by kernel_rfl
theorem s48 (xs : List EdgeV) (v : Int) : runFn T2 a48 l48 Try.f48 [.vw none ⟨.edge, xs⟩, .fn 66 [⟨.v ⟨.i64, [v]⟩, 1, 0, 0⟩]] = (match (Nat.ble xs.length big : Bool) with
  | true => some ⟨[.el (.sc (.int .i64 (firstAt (notEdge v) xs)))], none⟩
  | false => none) := by
  rw [e48]
  unfold firstAt
  cases h : Nat.ble xs.length big with
  | false => simp [h]
  | true =>
    cases h2 : xs.findIdx? (notEdge v) with
    | some q => simp [h, h2]
    | none => simp [h, h2]
theorem c48 (xs : List EdgeV) (v : Int) (k : List RV → R) (out : Out) (h : (match (Nat.ble xs.length big : Bool) with
  | true => k [.el (.sc (.int .i64 (firstAt (notEdge v) xs)))]
  | false => none) = some out) : ∃ rs, Real Try.prog 48 ∧ COK Try.prog 48 [.vw none ⟨.edge, xs⟩, .fn 66 [⟨.v ⟨.i64, [v]⟩, 1, 0, 0⟩]] rs ∧ k rs = some out := by
  cases g0 : (Nat.ble xs.length big : Bool) with
  | true =>
    rw [g0] at h
    exact ⟨_, real Try.func48 (by kernel_rfl), fn_ok tok2 (A := a48) (L := l48) (r := none) Try.func48 (by kernel_rfl) (by kernel_rfl) (loops1 (by kernel_rfl) lk48) (by rw [s48, g0]), h⟩
  | false =>
    rw [g0] at h
    cases h

/-! slices.IndexFunc[[]impl.Edge,impl.Edge] -/
def a48b : Ann := ann [(2, [0, 1, 7, 8], [])] [4] 0
def lp48b : St → (Ex → St → R) → R := fun s k => match s with
  | ⟨[(0, .fv (.vw (some 0) ⟨.edge, xs⟩)), (1, .fv (.fn 49 [⟨.s .bo [td], 1, 0, 0⟩])), (7, .fv (.el (.sc (.int .i64 n)))), (8, .fv (.el (.sc (.int .i64 i))))], []⟩ => (match ((decide (n = (xs.length : Int)) && (decide (i = 0) && (Nat.ble xs.length big && xs.all (edgeIn td.length)))) : Bool) with
    | true => (match xs.findIdx? (half td) with
      | some q => k .ret ⟨[(4, .fv (.el (.sc (.int .i64 ((q : Int))))))], []⟩
      | none => k (.exit 0) ⟨[], []⟩)
    | false => none)
  | _ => none
def l48b : Loops := fun key s k => bif Nat.beq key 2 then lp48b s k else none
theorem st48b (xs : List EdgeV) (td : List Bool) (n : Int) (i : Int) (m : Nat) (k : Ex → St → R) : iterK a48b [0, 1, 7, 8] [] (codeK T2 a48b l48b Try.f48.ntmps (loopAt Try.f48 0)) (m + 1) ⟨[(0, .fv (.vw (some 0) ⟨.edge, xs⟩)), (1, .fv (.fn 49 [⟨.s .bo [td], 1, 0, 0⟩])), (7, .fv (.el (.sc (.int .i64 n)))), (8, .fv (.el (.sc (.int .i64 i))))], []⟩ k = (match (decide ((i : Int) < n) : Bool) with
  | true => (match (decide (0 ≤ (i : Int) ∧ (i : Int) < (xs.length : Int)) && true : Bool) with
    | true => (match (xs : List EdgeV)[Int.toNat i]? with
      | some x1 => (match (edgeIn td.length x1 : Bool) with
        | true => (match (half td x1 : Bool) with
          | true => k .ret ⟨[(4, .fv (.el (.sc (.int .i64 i))))], []⟩
          | false => iterK a48b [0, 1, 7, 8] [] (codeK T2 a48b l48b Try.f48.ntmps (loopAt Try.f48 0)) m ⟨[(0, .fv (.vw (some 0) ⟨.edge, xs⟩)), (1, .fv (.fn 49 [⟨.s .bo [td], 1, 0, 0⟩])), (7, .fv (.el (.sc (.int .i64 n)))), (8, .fv (.el (.sc (.int .i64 (IntKind.i64.wrap (i + 1))))))], []⟩ k)
        | false => none)
      | none => none)
    | false => none)
  | false => k (.exit 0) ⟨[], []⟩) := by kernel_rfl
theorem ind48b (xs : List EdgeV) (td : List Bool) (hx : Nat.ble xs.length big = true) (hall : xs.all (edgeIn td.length) = true) (k : Ex → St → R) : ∀ (m j : Nat), j + m = xs.length → iterK a48b [0, 1, 7, 8] [] (codeK T2 a48b l48b Try.f48.ntmps (loopAt Try.f48 0)) (m + 1) ⟨[(0, .fv (.vw (some 0) ⟨.edge, xs⟩)), (1, .fv (.fn 49 [⟨.s .bo [td], 1, 0, 0⟩])), (7, .fv (.el (.sc (.int .i64 (xs.length : Int))))), (8, .fv (.el (.sc (.int .i64 (j : Int)))))], []⟩ k =
    (match (xs.drop j).findIdx? (half td) with
    | some q => k .ret ⟨[(4, .fv (.el (.sc (.int .i64 ((j + q : Nat) : Int)))))], []⟩
    | none => k (.exit 0) ⟨[], []⟩) := by
  intro m
  induction m with
  | zero =>
    intro j hj
    have h1 : ¬ ((j : Int) < (xs.length : Int)) := by omega
    rw [st48b]
    have h2 : xs.drop j = [] := List.drop_of_length_le (by omega)
    simp [h1, h2]
  | succ m ih =>
    intro j hj
    have hlt : j < xs.length := by omega
    have h1 : ((j : Int) < (xs.length : Int)) := by omega
    have h2 : (0 : Int) ≤ (j : Int) := by omega
    rw [st48b, wrap_succ hlt hx]
    have h3 : xs[Int.toNat (j : Int)]? = some xs[j] := by simp [hlt]
    have hq : edgeIn td.length xs[j] = true := List.all_eq_true.1 hall xs[j] (List.getElem_mem hlt)
    rw [List.drop_eq_getElem_cons hlt, List.findIdx?_cons]
    simp only [h1, h2, h3, hq, and_self, decide_true, Bool.and_true]
    cases hp : (half td) xs[j] with
    | true => simp
    | false =>
      rw [ih (j + 1) (by omega)]
      cases (xs.drop (j + 1)).findIdx? (half td) with
      | none => rfl
      | some q => simp only [Bool.false_eq_true, if_false, Option.map_some]; rw [show j + 1 + q = j + (q + 1) by omega]

theorem lk48b : LOK T2 a48b l48b Try.f48.ntmps (loopAt Try.f48 0) := by
  intro ins outs hA s k out h
  have hA' : ([0, 1, 7, 8], []) = (ins, outs) := Option.some.inj ((show a48b.lp (firstRegion (loopAt Try.f48 0)) = some ([0, 1, 7, 8], []) by kernel_rfl).symm.trans hA)
  cases hA'
  have hk : firstRegion (loopAt Try.f48 0) = 2 := by kernel_rfl
  rw [hk] at h
  change lp48b s k = some out at h
  unfold lp48b at h
  split at h
  · rename_i xs td n i
    cases hg : (decide (n = (xs.length : Int)) && (decide (i = 0) && (Nat.ble xs.length big && xs.all (edgeIn td.length)))) with
    | false => rw [hg] at h; cases h
    | true =>
      rw [hg] at h
      simp only [Bool.and_eq_true, decide_eq_true_eq] at hg
      obtain ⟨rfl, rfl, hx, hall⟩ := hg
      refine ⟨xs.length + 1, ?_⟩
      have := ind48b xs td hx hall k xs.length 0 (by omega)
      simp only [List.drop_zero, Nat.zero_add] at this
      exact this.trans h
  · cases h
theorem e48b (xs : List EdgeV) (td : List Bool) : runFn T2 a48b l48b Try.f48 [.vw none ⟨.edge, xs⟩, .fn 49 [⟨.s .bo [td], 1, 0, 0⟩]] = (match ((decide ((xs.length : Int) = (xs.length : Int)) && (decide (0 = 0) && (Nat.ble xs.length big && xs.all (edgeIn td.length)))) : Bool) with
  | true => (match xs.findIdx? (half td) with
    | some q => some ⟨[.el (.sc (.int .i64 ((q : Int))))], none⟩
    | none => some ⟨[.el (.sc (.int .i64 ((-1))))], none⟩)
  | false => none) := by kernel_rfl
theorem s48b (xs : List EdgeV) (td : List Bool) (hg : ((Nat.ble xs.length big && xs.all (edgeIn td.length))) = true) : runFn T2 a48b l48b Try.f48 [.vw none ⟨.edge, xs⟩, .fn 49 [⟨.s .bo [td], 1, 0, 0⟩]] = some ⟨[.el (.sc (.int .i64 (firstAt (half td) xs)))], none⟩ := by
  rw [e48b]
  rw [Bool.and_eq_true] at hg
  unfold firstAt
  cases h2 : xs.findIdx? (half td) with
    | some q => simp [hg.1, hg.2, h2]
    | none => simp [hg.1, hg.2, h2]
theorem c48b (xs : List EdgeV) (td : List Bool) (k : List RV → R) (out : Out) (h : (match ((Nat.ble xs.length big && xs.all (edgeIn td.length)) : Bool) with
  | true => k [.el (.sc (.int .i64 (firstAt (half td) xs)))]
  | false => none) = some out) : ∃ rs, Real Try.prog 48 ∧ COK Try.prog 48 [.vw none ⟨.edge, xs⟩, .fn 49 [⟨.s .bo [td], 1, 0, 0⟩]] rs ∧ k rs = some out := by
  cases g0 : ((Nat.ble xs.length big && xs.all (edgeIn td.length)) : Bool) with
  | true =>
    rw [g0] at h
    exact ⟨_, real Try.func48 (by kernel_rfl), fn_ok tok2 (A := a48b) (L := l48b) (r := none) Try.func48 (by kernel_rfl) (by kernel_rfl) (loops1 (by kernel_rfl) lk48b) (by rw [s48b _ _ g0]), h⟩
  | false =>
    rw [g0] at h
    cases h

/-! slices.IndexFunc[[]float32,float32] -/
def a74 : Ann := ann [(2, [0, 1, 7, 8], [])] [4] 0
def lp74 : St → (Ex → St → R) → R := fun s k => match s with
  | ⟨[(0, .fv (.vw (some 0) ⟨.f32, xs⟩)), (1, .fv (.fn 73 [])), (7, .fv (.el (.sc (.int .i64 n)))), (8, .fv (.el (.sc (.int .i64 i))))], []⟩ => (match (decide (n = (xs.length : Int)) && (decide (i = 0) && Nat.ble xs.length big) : Bool) with
    | true => (match xs.findIdx? notFin with
      | some q => k .ret ⟨[(4, .fv (.el (.sc (.int .i64 ((q : Int))))))], []⟩
      | none => k (.exit 0) ⟨[], []⟩)
    | false => none)
  | _ => none
def l74 : Loops := fun key s k => bif Nat.beq key 2 then lp74 s k else none
theorem st74 (xs : List Nat) (n : Int) (i : Int) (m : Nat) (k : Ex → St → R) : iterK a74 [0, 1, 7, 8] [] (codeK T2 a74 l74 Try.f74.ntmps (loopAt Try.f74 0)) (m + 1) ⟨[(0, .fv (.vw (some 0) ⟨.f32, xs⟩)), (1, .fv (.fn 73 [])), (7, .fv (.el (.sc (.int .i64 n)))), (8, .fv (.el (.sc (.int .i64 i))))], []⟩ k = (match (decide ((i : Int) < n) : Bool) with
  | true => (match (decide (0 ≤ (i : Int) ∧ (i : Int) < (xs.length : Int)) && true : Bool) with
    | true => (match (xs : List Nat)[Int.toNat i]? with
      | some x1 => (match (notFin x1 : Bool) with
        | true => k .ret ⟨[(4, .fv (.el (.sc (.int .i64 i))))], []⟩
        | false => iterK a74 [0, 1, 7, 8] [] (codeK T2 a74 l74 Try.f74.ntmps (loopAt Try.f74 0)) m ⟨[(0, .fv (.vw (some 0) ⟨.f32, xs⟩)), (1, .fv (.fn 73 [])), (7, .fv (.el (.sc (.int .i64 n)))), (8, .fv (.el (.sc (.int .i64 (IntKind.i64.wrap (i + 1))))))], []⟩ k)
      | none => none)
    | false => none)
  | false => k (.exit 0) ⟨[], []⟩) := by kernel_rfl
theorem ind74 (xs : List Nat) (hx : Nat.ble xs.length big = true) (k : Ex → St → R) : ∀ (m j : Nat), j + m = xs.length → iterK a74 [0, 1, 7, 8] [] (codeK T2 a74 l74 Try.f74.ntmps (loopAt Try.f74 0)) (m + 1) ⟨[(0, .fv (.vw (some 0) ⟨.f32, xs⟩)), (1, .fv (.fn 73 [])), (7, .fv (.el (.sc (.int .i64 (xs.length : Int))))), (8, .fv (.el (.sc (.int .i64 (j : Int)))))], []⟩ k =
    (match (xs.drop j).findIdx? notFin with
    | some q => k .ret ⟨[(4, .fv (.el (.sc (.int .i64 ((j + q : Nat) : Int)))))], []⟩
    | none => k (.exit 0) ⟨[], []⟩) := by
  intro m
  induction m with
  | zero =>
    intro j hj
    have h1 : ¬ ((j : Int) < (xs.length : Int)) := by omega
    rw [st74]
    have h2 : xs.drop j = [] := List.drop_of_length_le (by omega)
    simp [h1, h2]
  | succ m ih =>
    intro j hj
    have hlt : j < xs.length := by omega
    have h1 : ((j : Int) < (xs.length : Int)) := by omega
    have h2 : (0 : Int) ≤ (j : Int) := by omega
    rw [st74, wrap_succ hlt hx]
    have h3 : xs[Int.toNat (j : Int)]? = some xs[j] := by simp [hlt]
    rw [List.drop_eq_getElem_cons hlt, List.findIdx?_cons]
    simp only [h1, h2, h3, and_self, decide_true, Bool.and_true]
    cases hp : notFin xs[j] with
    | true => simp
    | false =>
      rw [ih (j + 1) (by omega)]
      cases (xs.drop (j + 1)).findIdx? notFin with
      | none => rfl
      | some q => simp only [Bool.false_eq_true, if_false, Option.map_some]; rw [show j + 1 + q = j + (q + 1) by omega]
theorem lk74 : LOK T2 a74 l74 Try.f74.ntmps (loopAt Try.f74 0) := by
  intro ins outs hA s k out h
  have hA' : ([0, 1, 7, 8], []) = (ins, outs) := Option.some.inj ((show a74.lp (firstRegion (loopAt Try.f74 0)) = some ([0, 1, 7, 8], []) by kernel_rfl).symm.trans hA)
  cases hA'
  have hk : firstRegion (loopAt Try.f74 0) = 2 := by kernel_rfl
  rw [hk] at h
  change lp74 s k = some out at h
  unfold lp74 at h
  split at h
  · rename_i xs n i
    cases hg : (decide (n = (xs.length : Int)) && (decide (i = 0) && Nat.ble xs.length big)) with
    | false => rw [hg] at h; cases h
    | true =>
      rw [hg] at h
      simp only [Bool.and_eq_true, decide_eq_true_eq] at hg
      obtain ⟨rfl, rfl, hx⟩ := hg
      refine ⟨xs.length + 1, ?_⟩
      have := ind74 xs hx k xs.length 0 (by omega)
      simp only [List.drop_zero, Nat.zero_add] at this
      exact this.trans h
  · cases h
theorem e74 (xs : List Nat) : runFn T2 a74 l74 Try.f74 [.vw none ⟨.f32, xs⟩, .fn 73 []] = (match (decide ((xs.length : Int) = (xs.length : Int)) && (decide (0 = 0) && Nat.ble xs.length big) : Bool) with
  | true => (match xs.findIdx? notFin with
    | some q => some ⟨[.el (.sc (.int .i64 ((q : Int))))], none⟩
    | none => some ⟨[.el (.sc (.int .i64 ((-1))))], none⟩)
  | false => none) := by kernel_rfl
theorem s74 (xs : List Nat) : runFn T2 a74 l74 Try.f74 [.vw none ⟨.f32, xs⟩, .fn 73 []] = (match (Nat.ble xs.length big : Bool) with
  | true => some ⟨[.el (.sc (.int .i64 (firstAt notFin xs)))], none⟩
  | false => none) := by
  rw [e74]
  unfold firstAt
  cases h : Nat.ble xs.length big with
  | false => simp [h]
  | true =>
    cases h2 : xs.findIdx? notFin with
    | some q => simp [h, h2]
    | none => simp [h, h2]
theorem c74 (xs : List Nat) (k : List RV → R) (out : Out) (h : (match (Nat.ble xs.length big : Bool) with
  | true => k [.el (.sc (.int .i64 (firstAt notFin xs)))]
  | false => none) = some out) : ∃ rs, Real Try.prog 74 ∧ COK Try.prog 74 [.vw none ⟨.f32, xs⟩, .fn 73 []] rs ∧ k rs = some out := by
  cases g0 : (Nat.ble xs.length big : Bool) with
  | true =>
    rw [g0] at h
    exact ⟨_, real Try.func74 (by kernel_rfl), fn_ok tok2 (A := a74) (L := l74) (r := none) Try.func74 (by kernel_rfl) (by kernel_rfl) (loops1 (by kernel_rfl) lk74) (by rw [s74, g0]), h⟩
  | false =>
    rw [g0] at h
    cases h

def S3 : SFn := fun f args k => match f, args with
  | 22, [.el (.sc (.int .i64 v)), .vw none ⟨.edge, es⟩] => k [.fresh 29 ⟨.f32, orNil (elOk v es) (elList v es)⟩, .el (.sc (.bo (elOk v es)))]
  | 25, [.vw none ⟨.edge, xs⟩, .vw none ⟨.edge, ys⟩] => (match (Nat.beq xs.length ys.length : Bool) with
    | true => (match (Nat.ble xs.length big : Bool) with
      | true => k [.el (.sc (.bo (all2 eqEdgeF xs ys)))]
      | false => none)
    | false => k [.el (.sc (.bo false))])
  | 48, [.vw none ⟨.edge, xs⟩, .fn 66 [⟨.v ⟨.i64, [v]⟩, 1, 0, 0⟩]] => (match (Nat.ble xs.length big : Bool) with
    | true => k [.el (.sc (.int .i64 (firstAt (notEdge v) xs)))]
    | false => none)
  | 48, [.vw none ⟨.edge, xs⟩, .fn 49 [⟨.s .bo [td], 1, 0, 0⟩]] => (match ((Nat.ble xs.length big && xs.all (edgeIn td.length)) : Bool) with
    | true => k [.el (.sc (.int .i64 (firstAt (half td) xs)))]
    | false => none)
  | 74, [.vw none ⟨.f32, xs⟩, .fn 73 []] => (match (Nat.ble xs.length big : Bool) with
    | true => k [.el (.sc (.int .i64 (firstAt notFin xs)))]
    | false => none)
  | _, _ => S2 f args k
abbrev M3 : MFn := M2
def T3 : TT := tab.T S3 muts M3
theorem tok3 : TOK Try.prog T3 := by
  refine (tab_ok tabok).tok (fun f args k out h => ?_) (fun f vec args k out h => ?_)
  · change S3 f args k = some out at h
    unfold S3 at h
    split at h
    · exact (fun k out h => cok_call (c22 _ _ k out h)) k out h
    · exact (fun k out h => cok_call (c25 _ _ k out h)) k out h
    · exact (fun k out h => cok_call (c48 _ _ k out h)) k out h
    · exact (fun k out h => cok_call (c48b _ _ k out h)) k out h
    · exact (fun k out h => cok_call (c74 _ k out h)) k out h
    · exact tok2.S f args k out h
  · exact tok2.M f vec args k out h

end Go.Sm.Ytngcejakoaoojaa
