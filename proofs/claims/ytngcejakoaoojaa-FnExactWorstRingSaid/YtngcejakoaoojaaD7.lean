/- What the functions hand back: level 6. -/
import Derived.Test.YtngcejakoaoojaaD6
namespace Go.Sm.Ytngcejakoaoojaa
open Go Go.Sm Go.RowKit Go.Proofs

/-! impl.EdgeLevels -/
def a24 : Ann := ann [(5, [1, 6, 7], [6, 7])] [4, 5] 0
def lp24 : St → (Ex → St → R) → R := fun s k => match s with
  | ⟨[(1, .fv (.vw (some 1) ⟨.edge, es⟩)), (6, .fv (.own 0)), (7, .fv (.pt ⟨.w 1, 1, 0, 0⟩))], [some ⟨29, ⟨.f32, out⟩⟩, some ⟨4, ⟨.bo, td⟩⟩]⟩ => (match ((es.all (edgeIn ((td : List Bool)).length) && (Nat.beq ((out : List Nat)).length ((td : List Bool)).length && Nat.ble es.length big)) : Bool) with
    | true => k (.exit 0) ⟨[(6, .fv (.own 0)), (7, .fv (.pt ⟨.w 1, 1, 0, 0⟩))], [some ⟨29, ⟨.f32, (settle es ((td : List Bool).count false) ((out : List Nat), (td : List Bool))).1⟩⟩, some ⟨4, ⟨.bo, (settle es ((td : List Bool).count false) ((out : List Nat), (td : List Bool))).2⟩⟩]⟩
    | false => none)
  | _ => none
def l24 : Loops := fun key s k => bif Nat.beq key 5 then lp24 s k else none
theorem st24 (es : List EdgeV) (out : List Nat) (td : List Bool) (m : Nat) (k : Ex → St → R) : iterK a24 [1, 6, 7] [6, 7] (codeK T6 a24 l24 Try.f24.ntmps (loopAt Try.f24 0)) (m + 1) ⟨[(1, .fv (.vw (some 1) ⟨.edge, es⟩)), (6, .fv (.own 0)), (7, .fv (.pt ⟨.w 1, 1, 0, 0⟩))], [some ⟨29, ⟨.f32, out⟩⟩, some ⟨4, ⟨.bo, td⟩⟩]⟩ k = (match ((Nat.ble es.length big && es.all (edgeIn td.length)) : Bool) with
  | true => (match (decide ((firstAt (half td) es : Int) < 0) : Bool) with
    | true => k (.exit 0) ⟨[(6, .fv (.own 0)), (7, .fv (.pt ⟨.w 1, 1, 0, 0⟩))], [some ⟨29, ⟨.f32, out⟩⟩, some ⟨4, ⟨.bo, td⟩⟩]⟩
    | false => (match (decide (0 ≤ (firstAt (half td) es : Int) ∧ (firstAt (half td) es : Int) < (es.length : Int)) && true : Bool) with
      | true => (match (es : List EdgeV)[Int.toNat (firstAt (half td) es)]? with
        | some x1 => (match (decide (0 ≤ (x1.f : Int) ∧ (x1.f : Int) < (td.length : Int)) && true : Bool) with
          | true => (match (td : List Bool)[Int.toNat x1.f]? with
            | some x2 => (match (x2 : Bool) with
              | true => (match (decide (0 ≤ (x1.f : Int) ∧ (x1.f : Int) < (out.length : Int)) && true : Bool) with
                | true => (match (out : List Nat)[Int.toNat x1.f]? with
                  | some x3 => (match (decide (0 ≤ (x1.t : Int) ∧ (x1.t : Int) < (out.length : Int)) && true : Bool) with
                    | true => (match (decide (0 ≤ (x1.t : Int) ∧ (x1.t : Int) < (td.length : Int)) && true : Bool) with
                      | true => (match (out : List Nat)[Int.toNat x1.t]? with
                        | some x4 => (match (td : List Bool)[Int.toNat x1.t]? with
                          | some x5 => iterK a24 [1, 6, 7] [6, 7] (codeK T6 a24 l24 Try.f24.ntmps (loopAt Try.f24 0)) m ⟨[(1, .fv (.vw (some 1) ⟨.edge, es⟩)), (6, .fv (.own 0)), (7, .fv (.pt ⟨.w 1, 1, 0, 0⟩))], [some ⟨29, ⟨.f32, (out : List Nat).set (Int.toNat x1.t) (fop .add .f32 x3 x1.p)⟩⟩, some ⟨4, ⟨.bo, (td : List Bool).set (Int.toNat x1.t) true⟩⟩]⟩ k
                          | none => none)
                        | none => none)
                      | false => none)
                    | false => none)
                  | none => none)
                | false => none)
              | false => (match (decide (0 ≤ (x1.t : Int) ∧ (x1.t : Int) < (out.length : Int)) && true : Bool) with
                | true => (match (out : List Nat)[Int.toNat x1.t]? with
                  | some x6 => (match (decide (0 ≤ (x1.f : Int) ∧ (x1.f : Int) < (out.length : Int)) && true : Bool) with
                    | true => (match (decide (0 ≤ (x1.f : Int) ∧ (x1.f : Int) < (td.length : Int)) && true : Bool) with
                      | true => (match (out : List Nat)[Int.toNat x1.f]? with
                        | some x7 => (match (td : List Bool)[Int.toNat x1.f]? with
                          | some x8 => iterK a24 [1, 6, 7] [6, 7] (codeK T6 a24 l24 Try.f24.ntmps (loopAt Try.f24 0)) m ⟨[(1, .fv (.vw (some 1) ⟨.edge, es⟩)), (6, .fv (.own 0)), (7, .fv (.pt ⟨.w 1, 1, 0, 0⟩))], [some ⟨29, ⟨.f32, (out : List Nat).set (Int.toNat x1.f) (fop .sub .f32 x6 x1.p)⟩⟩, some ⟨4, ⟨.bo, (td : List Bool).set (Int.toNat x1.f) true⟩⟩]⟩ k
                          | none => none)
                        | none => none)
                      | false => none)
                    | false => none)
                  | none => none)
                | false => none))
            | none => none)
          | false => none)
        | none => none)
      | false => none))
  | false => none) := by kernel_rfl
theorem ind24 (es : List EdgeV) (L : Nat) (hall0 : es.all (edgeIn L) = true) (hx : Nat.ble es.length big = true) (k : Ex → St → R) : ∀ (m : Nat) (out : List Nat) (td : List Bool), out.length = L → td.length = L → td.count false = m → iterK a24 [1, 6, 7] [6, 7] (codeK T6 a24 l24 Try.f24.ntmps (loopAt Try.f24 0)) (m + 1) ⟨[(1, .fv (.vw (some 1) ⟨.edge, es⟩)), (6, .fv (.own 0)), (7, .fv (.pt ⟨.w 1, 1, 0, 0⟩))], [some ⟨29, ⟨.f32, out⟩⟩, some ⟨4, ⟨.bo, td⟩⟩]⟩ k =
    k (.exit 0) ⟨[(6, .fv (.own 0)), (7, .fv (.pt ⟨.w 1, 1, 0, 0⟩))], [some ⟨29, ⟨.f32, (settle es m (out, td)).1⟩⟩, some ⟨4, ⟨.bo, (settle es m (out, td)).2⟩⟩]⟩ := by
  intro m
  induction m with
  | zero =>
    intro out td ho ht hm
    have hall : es.all (edgeIn td.length) = true := by rw [ht]; exact hall0
    have hf := find_told hall hm
    have hi := find_firstAt (half td) es
    rw [hf] at hi
    rw [st24]
    simp only [hall, hx, hi, Bool.and_self, settle]
    rfl
  | succ m ih =>
    intro out td ho ht hm
    have hall : es.all (edgeIn td.length) = true := by rw [ht]; exact hall0
    have hi := find_firstAt (half td) es
    rw [st24]
    unfold settle
    cases hf : es.find? (half td) with
    | none =>
      rw [hf] at hi
      simp only [hall, hx, hi, Bool.and_self]
      rfl
    | some e =>
      rw [hf] at hi
      obtain ⟨j, hj, hlt, hje⟩ := hi
      have hej : es[j] = e := by
        rw [List.getElem?_eq_getElem hlt] at hje
        exact Option.some.inj hje
      subst hej
      have hq : edgeIn td.length es[j] = true := List.all_eq_true.1 hall es[j] (List.getElem_mem hlt)
      obtain ⟨f0, f1⟩ := edgeIn_f hq
      obtain ⟨t0, t1⟩ := edgeIn_t hq
      have f2 : es[j].f < (out.length : Int) := by omega
      have t2 : es[j].t < (out.length : Int) := by omega
      have e1 : td[Int.toNat es[j].f]? = some (td.getD es[j].f.toNat false) := getB (by omega)
      have e2 : td[Int.toNat es[j].t]? = some (td.getD es[j].t.toNat false) := getB (by omega)
      have o1 : out[Int.toNat es[j].f]? = some (out.getD es[j].f.toNat 0) := getq (by omega)
      have o2 : out[Int.toNat es[j].t]? = some (out.getD es[j].t.toNat 0) := getq (by omega)
      obtain ⟨h6, h7⟩ := find_half hall hf
      have hcount := count_tell (s := (out, td)) h6 h7
      have hs := ih (tell (out, td) es[j]).1 (tell (out, td) es[j]).2 (by rw [(tell_len _ _).1]; exact ho) (by rw [(tell_len _ _).2]; exact ht) (by dsimp only at hcount; omega)
      have h1 : ((j : Int) < (es.length : Int)) := by omega
      have h2 : (0 : Int) ≤ (j : Int) := by omega
      have h8 : ¬ ((j : Int) < 0) := by omega
      have h3 : es[Int.toNat (j : Int)]? = some es[j] := by simp [hlt]
      show _ = k (.exit 0) ⟨[(6, .fv (.own 0)), (7, .fv (.pt ⟨.w 1, 1, 0, 0⟩))], [some ⟨29, ⟨.f32, (settle es m (tell (out, td) es[j])).1⟩⟩, some ⟨4, ⟨.bo, (settle es m (tell (out, td) es[j])).2⟩⟩]⟩
      rw [← hs]
      simp only [hall, hx, hj, h1, h2, h3, h8, f0, f1, f2, t0, t1, t2, e1, e2, o1, o2, and_self, decide_true, decide_false, Bool.and_true, Bool.and_self]
      unfold tell
      cases hf : td.getD es[j].f.toNat false <;> simp [hf]

theorem lk24 : LOK T6 a24 l24 Try.f24.ntmps (loopAt Try.f24 0) := by
  intro ins outs hA s k out h
  have hA' : ([1, 6, 7], [6, 7]) = (ins, outs) := Option.some.inj ((show a24.lp (firstRegion (loopAt Try.f24 0)) = some ([1, 6, 7], [6, 7]) by kernel_rfl).symm.trans hA)
  cases hA'
  have hk : firstRegion (loopAt Try.f24 0) = 5 := by kernel_rfl
  rw [hk] at h
  change lp24 s k = some out at h
  unfold lp24 at h
  split at h
  · rename_i es out td
    cases hg : (es.all (edgeIn td.length) && (Nat.beq out.length td.length && Nat.ble es.length big)) with
    | false => rw [hg] at h; cases h
    | true =>
      rw [hg] at h
      simp only [Bool.and_eq_true, decide_eq_true_eq] at hg
      obtain ⟨hall, hol, hx⟩ := hg
      refine ⟨td.count false + 1, ?_⟩
      exact (ind24 es td.length hall hx k (td.count false) out td (Nat.eq_of_beq_eq_true hol) rfl rfl).trans h
  · cases h
theorem e24 (v : Int) (es : List EdgeV) : runFn T6 a24 l24 Try.f24 [.el (.sc (.int .i64 v)), .vw none ⟨.edge, es⟩] = (match (!((within v 1 12 && decide (es.length ≤ 32)) && es.all (edgeOk v)) : Bool) with
  | true => some ⟨[.nil, .el (.sc (.bo false))], none⟩
  | false => (match (decide (0 ≤ (v : Int) ∧ (v : Int) ≤ 1099511627776) : Bool) with
    | true => (match (decide (0 ≤ (v : Int) ∧ (v : Int) ≤ 1099511627776) : Bool) with
      | true => (match (decide (0 ≤ (0 : Int) ∧ (0 : Int) < ((List.replicate (Int.toNat v) ((false : Bool))).length : Int)) && true : Bool) with
        | true => (match (List.replicate (Int.toNat v) ((false : Bool)) : List Bool)[Int.toNat 0]? with
          | some x1 => (match ((es.all (edgeIn (((List.replicate (Int.toNat v) ((false : Bool)) : List Bool).set (Int.toNat 0) true : List Bool)).length) && (Nat.beq ((List.replicate (Int.toNat v) ((0 : Nat)) : List Nat)).length (((List.replicate (Int.toNat v) ((false : Bool)) : List Bool).set (Int.toNat 0) true : List Bool)).length && Nat.ble es.length big)) : Bool) with
            | true => (match (Nat.ble ((settle es (((List.replicate (Int.toNat v) ((false : Bool)) : List Bool).set (Int.toNat 0) true : List Bool).count false) ((List.replicate (Int.toNat v) ((0 : Nat)) : List Nat), ((List.replicate (Int.toNat v) ((false : Bool)) : List Bool).set (Int.toNat 0) true : List Bool))).2).length big : Bool) with
              | true => (match (((settle es (((List.replicate (Int.toNat v) ((false : Bool)) : List Bool).set (Int.toNat 0) true : List Bool).count false) ((List.replicate (Int.toNat v) ((0 : Nat)) : List Nat), ((List.replicate (Int.toNat v) ((false : Bool)) : List Bool).set (Int.toNat 0) true : List Bool))).2).any (isB false) : Bool) with
                | true => some ⟨[.nil, .el (.sc (.bo false))], none⟩
                | false => (match (Nat.ble ((settle es (((List.replicate (Int.toNat v) ((false : Bool)) : List Bool).set (Int.toNat 0) true : List Bool).count false) ((List.replicate (Int.toNat v) ((0 : Nat)) : List Nat), ((List.replicate (Int.toNat v) ((false : Bool)) : List Bool).set (Int.toNat 0) true : List Bool))).1).length big : Bool) with
                  | true => (match (((settle es (((List.replicate (Int.toNat v) ((false : Bool)) : List Bool).set (Int.toNat 0) true : List Bool).count false) ((List.replicate (Int.toNat v) ((0 : Nat)) : List Nat), ((List.replicate (Int.toNat v) ((false : Bool)) : List Bool).set (Int.toNat 0) true : List Bool))).1).all fin : Bool) with
                    | true => some ⟨[.fresh 29 ⟨.f32, (settle es (((List.replicate (Int.toNat v) ((false : Bool)) : List Bool).set (Int.toNat 0) true : List Bool).count false) ((List.replicate (Int.toNat v) ((0 : Nat)) : List Nat), ((List.replicate (Int.toNat v) ((false : Bool)) : List Bool).set (Int.toNat 0) true : List Bool))).1⟩, .el (.sc (.bo true))], none⟩
                    | false => some ⟨[.nil, .el (.sc (.bo false))], none⟩)
                  | false => none))
              | false => none)
            | false => none)
          | none => none)
        | false => none)
      | false => none)
    | false => none)) := by kernel_rfl
theorem s24 (v : Int) (es : List EdgeV) : runFn T6 a24 l24 Try.f24 [.el (.sc (.int .i64 v)), .vw none ⟨.edge, es⟩] = (match (elOk v es : Bool) with
  | true => some ⟨[.fresh 29 ⟨.f32, elList v es⟩, .el (.sc (.bo true))], none⟩
  | false => some ⟨[.nil, .el (.sc (.bo false))], none⟩) := by
  rw [e24]
  cases ho : edgesOk v es with
  | false =>
    unfold elOk
    rw [ho]
    unfold edgesOk at ho
    rw [ho]
    rfl
  | true =>
  obtain ⟨hin, v1, v2, hl⟩ := edgesOk_in ho
  have hb : Nat.ble es.length big = true := big_of (by omega)
  have d1 : 0 ≤ v ∧ v ≤ 1099511627776 := by omega
  have d2 : 0 ≤ v ∧ v = v ∧ v ≤ 1099511627776 := by omega
  have d3 : (0 : Int) ≤ 0 ∧ (0 : Int) < ((List.replicate (Int.toNat v) false).length : Int) := by rw [List.length_replicate]; omega
  have d4 : (List.replicate (Int.toNat v) false)[Int.toNat 0]? = some false := by rw [List.getElem?_replicate, if_pos (by omega)]
  have hin2 : es.all (edgeIn ((List.replicate (Int.toNat v) false).set (Int.toNat 0) true).length) = true := by rw [List.length_set, List.length_replicate]; exact hin
  have hol : Nat.beq (List.replicate (Int.toNat v) (0 : Nat)).length ((List.replicate (Int.toNat v) false).set (Int.toNat 0) true).length = true := by rw [List.length_set, List.length_replicate, List.length_replicate]; exact Nat.beq_refl _
  have hvv : 1 ≤ v ∧ v ≤ 1099511627776 := by omega
  have hst : (List.replicate (Int.toNat v) (0 : Nat), (List.replicate (Int.toNat v) false).set (Int.toNat 0) true) = elStart v := rfl
  have hct := elStart_count v1
  have hsr := settle_rounds es (v - 1).toNat (elStart v) (by rw [(elStart_len v).2]; exact hin) hct
  have hsl := settle_len es (v - 1).toNat (elStart v)
  rw [(elStart_len v).1, (elStart_len v).2] at hsl
  have hct2 : ((List.replicate (Int.toNat v) false).set (Int.toNat 0) true).count false = (v - 1).toNat := hct
  have hb2 : Nat.ble (settle es (v - 1).toNat (elStart v)).1.length big = true := big_of (by omega)
  have hb3 : Nat.ble (settle es (v - 1).toNat (elStart v)).2.length big = true := big_of (by omega)
  unfold edgesOk at ho
  simp only [ho, hb, d1, d3, d4, hin2, hol, hst, hct2, hb2, hb3, and_self, decide_true, Bool.and_true, Bool.not_true, Bool.and_self]
  unfold elOk elList elRun edgesOk
  rw [ho]
  cases hr : rounds es (v - 1).toNat (elStart v) with
  | none =>
    rw [hr] at hsr
    dsimp only at hsr
    rw [hsr]
    rfl
  | some s =>
    rw [hr] at hsr
    dsimp only at hsr
    rw [hsr.1, hsr.2]
    simp only [Bool.true_and]
    all_goals (cases s.1.all fin <;> rfl)
theorem c24 (v : Int) (es : List EdgeV) (k : List RV → R) (out : Out) (h : k [.fresh 29 ⟨.f32, orNil (elOk v es) (elList v es)⟩, .el (.sc (.bo (elOk v es)))] = some out) : ∃ rs, Real Try.prog 24 ∧ COK Try.prog 24 [.el (.sc (.int .i64 v)), .vw none ⟨.edge, es⟩] rs ∧ k rs = some out := by
  cases g0 : (elOk v es : Bool) with
  | true =>
    rw [g0] at h
    exact ⟨_, real Try.func24 (by kernel_rfl), fn_ok tok6 (A := a24) (L := l24) (r := none) Try.func24 (by kernel_rfl) (by kernel_rfl) (loops1 (by kernel_rfl) lk24) (by rw [s24, g0]; rfl), h⟩
  | false =>
    rw [g0] at h
    exact ⟨_, real Try.func24 (by kernel_rfl), COK.nil (fn_ok tok6 (A := a24) (L := l24) (r := none) Try.func24 (by kernel_rfl) (by kernel_rfl) (loops1 (by kernel_rfl) lk24) (by rw [s24, g0] <;> rfl)), h⟩

def S7 : SFn := fun f args k => match f, args with
  | 24, [.el (.sc (.int .i64 v)), .vw none ⟨.edge, es⟩] => k [.fresh 29 ⟨.f32, orNil (elOk v es) (elList v es)⟩, .el (.sc (.bo (elOk v es)))]
  | _, _ => S6 f args k
abbrev M7 : MFn := M6
def T7 : TT := tab.T S7 muts M7
theorem tok7 : TOK Try.prog T7 := by
  refine (tab_ok tabok).tok (fun f args k out h => ?_) (fun f vec args k out h => ?_)
  · change S7 f args k = some out at h
    unfold S7 at h
    split at h
    · exact (fun k out h => cok_call (c24 _ _ k out h)) k out h
    · exact tok6.S f args k out h
  · exact tok6.M f vec args k out h

end Go.Sm.Ytngcejakoaoojaa
