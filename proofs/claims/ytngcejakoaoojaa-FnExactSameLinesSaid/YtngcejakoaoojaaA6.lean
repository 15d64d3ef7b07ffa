/- The operations that leave memory alone: what the machine says, the model does. -/
import Derived.Test.YtngcejakoaoojaaA5
import Derived.Laws.Externs
namespace Go.Sm
open Go Go.RowKit

def packV : List Value → Value
  | [v] => v
  | vs => .tuple vs.toArray

def RVR (w w' : World) (cargs : List Value) : RV → Value → Prop
  | .el e, v => ElR e v
  | .nil, v => v = .slice none 0 0
  | .fresh e vec, v => ∃ vs, w'.ownsRow 0 e vec.k.sz v vec.xs.length vs ∧ AllR SCR vec.cells vs ∧ ∀ g, v.ownBlock = some g → w.heap.size ≤ g
  | .arg i, v => cargs[i]? = some v

def RV.isFresh : RV → Bool
  | .fresh _ _ => true
  | _ => false

/-- What a call hands back: values that fit; what is new lies apart. -/
structure RVs (w w' : World) (cargs : List Value) (rs : List RV) (vs : List Value) : Prop where
  all : AllR (RVR w w' cargs) rs vs
  apart : ∀ (i j : Nat) (r r' : RV) (v v' : Value) (g : Nat), i ≠ j → rs[i]? = some r → rs[j]? = some r' → r.isFresh = true → r'.isFresh = true → vs[i]? = some v → vs[j]? = some v' → v.ownBlock = some g → v'.ownBlock ≠ some g

/-- The function is one with a body. -/
def Real (P : Program) (f : Nat) : Prop := ∃ fn, P.funcs[f]? = some fn ∧ fn.body.isSome = true ∧ (fn.name == "runtime.NumGoroutine") = false

/-- A function that only reads what it is handed: called with what reads so, it hands back this. -/
def COK (P : Program) (f : Nat) (args : List FV) (rs : List RV) : Prop :=
  ∀ (w : World) (cargs : List Value), AllR (FVR w (fun k => k < w.heap.size) [] []) args cargs →
    Calls P f cargs.toArray w fun e w' => ∃ vs, e = .returned (packV vs) ∧ Same w w' ∧ RVs w w' cargs rs vs

/-- A function of the model's own, without a body. -/
def XR (P : Program) (f : Nat) (args : List FV) (rs : List RV) : Prop :=
  ∃ fn e c, P.funcs[f]? = some fn ∧ (fn.name == "runtime.NumGoroutine") = false ∧ fn.body.isNone = true ∧ Extern.findNext fn = none ∧ Extern.find fn = some e ∧ rs = [.el c] ∧
    ∀ (w : World) (cargs : List Value), AllR (FVR w (fun k => k < w.heap.size) [] []) args cargs → ∃ v w', (e cargs.toArray).run P w = .ok v w' ∧ ElR c v ∧ Same w w'

def CallOK (P : Program) (f : Nat) (args : List FV) (rs : List RV) : Prop := (Real P f ∧ COK P f args rs) ∨ XR P f args rs

/-- A function that writes its first argument's row: what that holds behind the call. -/
def CMOK (P : Program) (f : Nat) (vec : Vec) (args : List FV) (rs : List RV) (vec' : Vec) : Prop :=
  ∀ (w : World) (e : Nat) (v : Value) (cargs : List Value), (∃ vs, w.ownsRow 0 e vec.k.sz v vec.xs.length vs ∧ AllR SCR vec.cells vs) →
    AllR (FVR w (fun k => k < w.heap.size ∧ v.ownBlock ≠ some k) [] []) args cargs →
    Calls P f (v :: cargs).toArray w fun en w' => ∃ vs, en = .returned (packV vs) ∧ Keep (fun k => k < w.heap.size ∧ v.ownBlock ≠ some k) w w' ∧
      (∃ vs', w'.ownsRow 0 e vec'.k.sz v vec'.xs.length vs' ∧ AllR SCR vec'.cells vs') ∧ RVs w w' (v :: cargs) rs vs

def aggD : TypeDesc → Bool
  | .struct _ | .array _ _ => true
  | _ => false

structure TOK (P : Program) (T : TT) : Prop where
  mo : P.follows .mixedOrders = true
  sl : ∀ t e, T.sl t = some e → P.underlying t = some (.slice e)
  ek : ∀ t k, T.ek t = some k → ∃ i z d, P.info? t = some i ∧ i.size = k.sz ∧ i.zero = some z ∧ ElR (k.f k.z) z ∧ i.bytes ≤ 64 ∧ P.underlying t = some d ∧
    aggD d = k.agg
  fo : ∀ t f o, T.fo t f = some o → ∃ fs fd i d, P.underlying t = some (.struct fs) ∧ fs[f]? = some fd ∧ fd.offset = o ∧ P.info? fd.type = some i ∧ i.size = 1 ∧
    P.underlying fd.type = some d ∧ aggD d = false
  bd : ∀ t k, T.ek t = some k → k.agg = true → ∃ (fs : Array Field) (places : Array (Nat × Nat)), P.underlying t = some (.struct fs) ∧
    (∀ w : World, (fs.mapM fun f => (do pure (f.offset, ← sizeOf f.type) : Sem (Nat × Nat))).run P w = .ok places w) ∧ ∀ f o, T.fo t f = some o → places[f]? = some (o, 1) ∧ o < k.sz
  nk : ∀ t n, T.nk t = some n → P.underlying t = some n.desc
  S : ∀ f args k out, T.S f args k = some out → ∃ rs, CallOK P f args rs ∧ k rs = some out
  M : ∀ f vec args k out, T.M f vec args k = some out → ∃ rs vec', Real P f ∧ CMOK P f vec args rs vec' ∧ k rs vec' = some out

/-- What is asked of one operation. -/
def Yields (P : Program) (o : Oper) (a : Act) (w : World) (Φ : Value → World → Prop) : Prop :=
  match (execOp a.eval o).run P w with
  | .ok (.value v) w' => Φ v w'
  | .ok .skip w' => Φ undef w'
  | .ok (.enter f args) w' => Calls P f args w' fun e w'' => ∃ v, e = .returned v ∧ Φ v w''
  | _ => False

theorem Yields.wp {P : Program} {o : Oper} {a : Act} {w : World} {Φ : Value → World → Prop} {K : Act → World → Prop} {Q : Exit → Act → World → Prop}
    (h : Yields P o a w Φ) (hk : ∀ v w', Φ v w' → K (a.put o.dst v) w') : o.wp P a w K Q := by
  unfold Yields at h
  unfold Oper.wp
  generalize (execOp a.eval o).run P w = r at *
  cases r with
  | ok n w' =>
    cases n <;> simp only at h <;> simp only [Oper.upon]
    case value v => exact hk _ _ h
    case skip => exact hk _ _ h
    case enter f args =>
      exact h.mono fun e w'' ⟨v, he, hv⟩ => by subst he; exact hk _ _ hv
  | halt x w' => exact h.elim

theorem Yields.mono {P : Program} {o : Oper} {a : Act} {w : World} {Φ Φ' : Value → World → Prop} (h : Yields P o a w Φ) (hm : ∀ v w', Φ v w' → Φ' v w') : Yields P o a w Φ' := by
  unfold Yields at *
  generalize (execOp a.eval o).run P w = r at *
  cases r with
  | ok n w' =>
    cases n <;> simp only at h ⊢
    case value v => exact hm _ _ h
    case skip => exact hm _ _ h
    case enter f args => exact h.mono fun e w'' ⟨v, he, hv⟩ => ⟨v, he, hm _ _ hv⟩
  | halt x w' => exact h.elim

theorem yields_value {P : Program} {o : Oper} {a : Act} {w w' : World} {x : Sem Value} {v : Value} {Φ : Value → World → Prop} (he : execOp a.eval o = (do pure (.value (← x)))) (hx : x.run P w = .ok v w') (h : Φ v w') : Yields P o a w Φ := by
  unfold Yields
  rw [he]
  simp only [Sem.run_bind, hx, Result.andThen_ok, Sem.run_pure]
  exact h

theorem yields_gives {P : Program} {o : Oper} {a : Act} {w : World} {x : Sem Value} {Ψ : Value → Prop} (he : execOp a.eval o = (do pure (.value (← x)))) (hx : Gives P w x Ψ) : Yields P o a w (fun v w' => Ψ v ∧ Same w w') := by
  obtain ⟨v, w', h1, h2, h3⟩ := hx
  exact yields_value he h1 ⟨h2, h3⟩

/-- The operands read as the machine has them. -/
structure Opd (Pr : Nat → Prop) (w : World) (ρ cargs : List Value) (s : St) (a : Act) (op : Op) : Prop where
  fv : ∀ x ∈ op.operands, ∀ v, evO s x = some v → FVR w Pr ρ cargs v (a.eval x)
  tup : ∀ t, .tmp t ∈ op.operands → ∀ xs, lk s.sl t = some (.tup xs) → ∃ vs, a.eval (.tmp t) = .tuple vs.toArray ∧ AllR (FVR w Pr ρ cargs) xs vs

theorem constO_ok {v : Value} {x : FV} (h : constO v = some x) (w : World) (Pr : Nat → Prop) (ρ cargs : List Value) : FVR w Pr ρ cargs x v := by
  unfold constO at h
  split at h
  · cases h; exact rfl
  · cases h; exact rfl
  · rename_i k b
    cases hn : isN k b with
    | true => rw [hn] at h; cases h
    | false => rw [hn] at h; cases h; exact ⟨b, rfl, cn_num hn⟩
  · rename_i k a b
    cases hn : isN k a || isN k b with
    | true => rw [hn] at h; cases h
    | false =>
      rw [hn] at h
      cases h
      rw [Bool.or_eq_false_iff] at hn
      exact ⟨a, b, rfl, cn_num hn.1, cn_num hn.2⟩
  · cases h; exact rfl
  · cases h

/-- The slots that an operation looks at read so: then its operands do. -/
theorem Opd.of_slots {Pr : Nat → Prop} {w : World} {ρ cargs : List Value} {s : St} {a : Act} {op : Op}
    (h : ∀ t, .tmp t ∈ op.operands → ∀ v, lk s.sl t = some v → AVR w Pr ρ cargs v (a.tmps.getD t undef)) : Opd Pr w ρ cargs s a op := by
  refine ⟨fun x hx v hv => ?_, fun t ht xs hxs => h t ht _ hxs⟩
  cases x with
  | tmp t =>
    unfold evO at hv
    dsimp only at hv
    split at hv
    · rename_i u hu
      cases hv
      exact h t hx _ hu
    · cases hv
  | const c => exact constO_ok hv w Pr ρ cargs
  | global g => cases hv
  | func f =>
    simp only [evO, Option.some.injEq] at hv
    subst hv
    exact ⟨[], rfl, trivial⟩

/-! ### Reading memory -/

section
variable {P : Program} {T : TT} {w : World} {Pr : Nat → Prop} {ρ cargs : List Value} {H : Hp}

/-- Where a pointer leads, the cells of its base are there. -/
theorem base_cells (hH : HR w Pr ρ H) (hp : ∀ k, Pr k → k < w.heap.size) {p : PT} {v : Value} {vec : Vec} (hv : PtR w Pr ρ p v) (hb : baseVec H p.b = some vec) :
    ∃ a, v = .pointer (some (a.add (p.i * p.sz + p.j))) ∧ CellsR w a vec.cells ∧ a.block < w.heap.size := by
  unfold PtR at hv
  split at hv
  · rename_i vec' hpv
    rw [hpv] at hb
    cases hb
    obtain ⟨a, h1, h2, _, h4⟩ := hv
    exact ⟨a, h4, h2, hp _ h1⟩
  · rename_i r hpr
    rw [hpr] at hb
    obtain ⟨vr, g, h1, h2, h3⟩ := hv
    unfold baseVec at hb
    dsimp only at hb
    split at hb
    · rename_i row hrow
      cases hb
      obtain ⟨v', hv', vs, hown, hvs, _⟩ := hH.row r row hrow
      rw [h1] at hv'
      cases hv'
      refine ⟨⟨g, 0, none⟩, ?_, ?_, (hown.lt g h2).2⟩
      · rw [h3]
        unfold Addr.add
        split
        · rename_i h0; rw [h0]
        · simp
      · intro i c hi
        obtain ⟨u, hu, hc⟩ := hvs.get i c hi
        exact ⟨u, hown.cells h2 i u hu, hc⟩
    · cases hb

theorem cells_list {a : Addr} {cs : List SC} {n m : Nat} (h : CellsR w a cs) (hn : n + m ≤ cs.length) :
    ∃ vs, vs.length = m ∧ AllR SCR ((cs.drop n).take m) vs ∧ ∀ j u, vs[j]? = some u → w.cell? ((a.add n).add j) = some u := by
  induction m with
  | zero => exact ⟨[], rfl, by simp [AllR], by simp⟩
  | succ m ih =>
    obtain ⟨vs, h1, h2, h3⟩ := ih (by omega)
    have hlt : n + m < cs.length := by omega
    obtain ⟨u, hu, hs⟩ := h (n + m) cs[n + m] (List.getElem?_eq_getElem hlt)
    refine ⟨vs ++ [u], by simp [h1], ?_, ?_⟩
    · have e : (cs.drop n).take (m + 1) = (cs.drop n).take m ++ [cs[n + m]] := by
        rw [List.take_add_one, List.getElem?_drop, List.getElem?_eq_getElem hlt]; rfl
      rw [e]
      exact h2.append ⟨hs, trivial⟩
    · intro j x hx
      rw [List.getElem?_append] at hx
      split at hx
      · exact h3 j x hx
      · rename_i hj
        have : j = m := by
          rw [h1] at hj hx
          by_cases e : j - m = 0
          · omega
          · obtain ⟨q, hq⟩ : ∃ q, j - m = q + 1 := ⟨j - m - 1, by omega⟩
            rw [hq] at hx
            simp at hx
        subst this
        rw [h1] at hx
        simp at hx
        subst hx
        rw [add_add]
        exact hu

theorem isAgg_run {t : Nat} {d : TypeDesc} {b : Bool} (hu : P.underlying t = some d) (hd : aggD d = b) : (isAgg t).run P w = .ok b w := by
  unfold isAgg
  rw [Sem.run_bind, run_underlying hu w]
  cases d <;> simp [aggD] at hd <;> simp [← hd]

/-- What lies at element i, from cell j on. -/
theorem elt_cells {a : Addr} {vec : Vec} {x : vec.k.ty} {i : Nat} (h : CellsR w a vec.cells) (hx : vec.xs[i]? = some x) :
    ∃ vs, vs.length = vec.k.sz ∧ AllR SCR (vec.k.f x).cells vs ∧ ∀ j u, vs[j]? = some u → w.cell? ((a.add (i * vec.k.sz)).add j) = some u := by
  have hi : i < vec.xs.length := by
    rcases Nat.lt_or_ge i vec.xs.length with h' | h'
    · exact h'
    · rw [List.getElem?_eq_none h'] at hx; cases hx
  have hle : i * vec.k.sz + vec.k.sz ≤ vec.cells.length := by
    rw [vec.len_cells]
    calc i * vec.k.sz + vec.k.sz = (i + 1) * vec.k.sz := by rw [Nat.add_mul]; omega
      _ ≤ vec.xs.length * vec.k.sz := Nat.mul_le_mul_right _ hi
  obtain ⟨vs, h1, h2, h3⟩ := cells_list h hle
  refine ⟨vs, h1, ?_, h3⟩
  have e : (vec.cells.drop (i * vec.k.sz)).take vec.k.sz = (vec.k.f x).cells := by
    apply List.ext_getElem?
    intro j
    rw [List.getElem?_take]
    split
    · rename_i hj
      rw [List.getElem?_drop]
      exact vec.get_cells i j x hx hj
    · rename_i hj
      rw [List.getElem?_eq_none]
      rw [vec.k.len_f]
      omega
  rw [e] at h2
  exact h2

theorem loadK_ok (hT : TOK P T) {t : Nat} {p : PT} {k : FV → R} {out : Out} (h : loadK T H t p k = some out) :
    ∃ x, k x = some out ∧ ∀ (w : World) (Pr : Nat → Prop) (ρ cargs : List Value) (v : Value), (∀ k, Pr k → k < w.heap.size) → HR w Pr ρ H → PtR w Pr ρ p v → ∃ u, (Instr.loadAt t v).run P w = .ok u w ∧ FVR w Pr ρ cargs x u := by
  unfold loadK at h
  split at h
  · rename_i q vec hq hb
    obtain ⟨i, z, d, hi, hsz, _, _, _, hd, hagg⟩ := hT.ek t q hq
    cases hs : Nat.beq p.sz vec.k.sz with
    | false => rw [hs] at h; cases h
    | true =>
    rw [hs] at h
    replace hs := Nat.eq_of_beq_eq_true hs
    simp only [cond_true] at h
    split at h
    · rename_i a ha
      cases hqa : q.agg with
      | true =>
        rw [hqa] at h hagg
        simp only [cond_true] at h
        cases hc : (decide (q = vec.k) && Nat.beq p.j 0) with
        | false => rw [hc] at h; cases h
        | true =>
          rw [hc] at h
          rw [Bool.and_eq_true] at hc
          have hqk : q = vec.k := of_decide_eq_true hc.1
          have hj : p.j = 0 := Nat.eq_of_beq_eq_true hc.2
          refine ⟨_, h, ?_⟩
          intro w Pr ρ cargs v hp hH hv
          obtain ⟨b, rfl, hcells, _⟩ := base_cells hH hp hv hb
          obtain ⟨vs, h1, h2, h3⟩ := elt_cells hcells ha
          obtain ⟨cs, hcs⟩ := K.agg_f (by rw [← hqk]; exact hqa) a
          refine ⟨.agg vs.toArray, ?_, ?_⟩
          · have hl := run_loadCells_list (P := P) w (b.add (p.i * p.sz + p.j)) vs (by rw [hj, hs, Nat.add_zero]; exact h3)
            rw [h1, ← hqk, ← hsz] at hl
            simp [Instr.loadAt, Instr.sureAddr, loadVar, isAgg_run hd hagg, sizeOf, typeInfo, hi, hl]
          · show ElR (vec.k.f a) _
            rw [hcs] at h2 ⊢
            exact ⟨vs, rfl, h2⟩
      | false =>
        rw [hqa] at h hagg
        simp only [cond_false] at h
        split at h
        · rename_i c hc
          refine ⟨_, h, ?_⟩
          intro w Pr ρ cargs v hp hH hv
          obtain ⟨b, rfl, hcells, _⟩ := base_cells hH hp hv hb
          obtain ⟨vs, h1, h2, h3⟩ := elt_cells hcells ha
          obtain ⟨u, hu, hcu⟩ := h2.get p.j c hc
          have h4 := h3 p.j u hu
          rw [add_add, ← hs] at h4
          refine ⟨u, ?_, hcu⟩
          simp [Instr.loadAt, Instr.sureAddr, loadVar, isAgg_run hd hagg, h4]
        · cases h
    · cases h
  · cases h

theorem fieldAddr_ok (hT : TOK P T) {t f o : Nat} (h : T.fo t f = some o) (a : Addr) : (Instr.fieldAt t (.pointer (some a)) f).run P w = .ok (.pointer (some (a.add o))) w := by
  obtain ⟨fs, fd, i, d, h1, h2, h3, h4, h5, _, _⟩ := hT.fo t f o h
  simp [Instr.fieldAt, run_underlying h1, h2, Instr.sureAddr, fieldPlace, sizeOf, typeInfo, h4, h5, h3]

theorem PtR.add {p : PT} {v : Value} {o : Nat} (h : PtR w Pr ρ p v) : ∃ a, v = .pointer (some a) ∧ PtR w Pr ρ ⟨p.b, p.sz, p.i, p.j + o⟩ (.pointer (some (a.add o))) := by
  unfold PtR at *
  split at h
  · rename_i vec hb
    obtain ⟨a, h1, h2, h3, h4⟩ := h
    refine ⟨_, h4, ?_⟩
    simp only [hb]
    exact ⟨a, h1, h2, h3, by rw [add_add, Nat.add_assoc]⟩
  · rename_i r hb
    obtain ⟨vr, g, h1, h2, h3⟩ := h
    refine ⟨_, h3, ?_⟩
    simp only [hb]
    refine ⟨vr, g, h1, h2, ?_⟩
    unfold Addr.add
    split
    · rename_i h0; subst h0; rfl
    · simp [Nat.add_assoc]

/-- A slice's value: its base, its length. -/
theorem slice_ok (hH : HR w Pr ρ H) {x : FV} {v : Value} {b : Base} {vec : Vec} (hx : FVR w Pr ρ cargs x v) (hs : slice? H x = some (b, vec)) :
    baseVec H b = some vec ∧ ((v = .slice none 0 0 ∧ vec.xs = []) ∨ ∃ a cap, v = .slice (some a) vec.xs.length cap ∧ vec.xs.length ≤ cap ∧ CellsR w a vec.cells ∧
      ∀ i j : Nat, vec.xs ≠ [] → PtR w Pr ρ ⟨b, vec.k.sz, i, j⟩ (.pointer (some (a.add (i * vec.k.sz + j))))) := by
  unfold slice? at hs
  split at hs
  · rename_i o vc
    simp only [Option.some.injEq, Prod.mk.injEq] at hs
    obtain ⟨rfl, rfl⟩ := hs
    refine ⟨rfl, ?_⟩
    rcases hx.1 with h | ⟨a, cap, h1, h2, h3, h4⟩
    · exact .inl h
    · exact .inr ⟨a, cap, h1, h2, h4, fun i j hne => ⟨a, h3.resolve_left hne, h4, rfl, rfl⟩⟩
  · rename_i r
    split at hs
    · rename_i row hrow
      simp only [Option.some.injEq, Prod.mk.injEq] at hs
      obtain ⟨rfl, rfl⟩ := hs
      refine ⟨by simp [baseVec, hrow], ?_⟩
      obtain ⟨v', hv', vs, hown, hvs, _⟩ := hH.row r row hrow
      have hx' : ρ[r]? = some v := hx
      rw [hx'] at hv'
      cases hv'
      rcases hown.2 with ⟨h1, h2⟩ | ⟨g, cap, cur, h1, _, h3, h4, _⟩
      · exact .inl ⟨h1, List.eq_nil_of_length_eq_zero h2⟩
      · refine .inr ⟨⟨g, 0, none⟩, cap, h1, h4, ?_, ?_⟩
        · intro i c hi
          obtain ⟨u, hu, hc⟩ := hvs.get i c hi
          exact ⟨u, hown.cells (by rw [h1]; rfl) i u hu, hc⟩
        · intro i j _
          refine ⟨v, g, hx', by rw [h1]; rfl, ?_⟩
          unfold Addr.add
          split
          · rename_i h0; rw [h0]
          · simp
    · cases hs
  · cases hs

theorem indexAddr_ok (hT : TOK P T) (hH : HR w Pr ρ H) {t e : Nat} {kd : K} {x : FV} {v : Value} {b : Base} {vec : Vec} {q : IntKind} {n : Int} (ht : T.sl t = some e) (he : T.ek e = some kd) (hk : kd = vec.k)
    (hx : FVR w Pr ρ cargs x v) (hs : slice? H x = some (b, vec)) (h0 : 0 ≤ n) (h1 : n < (vec.xs.length : Int)) :
    ∃ u, (Instr.indexAt t v (.int q n)).run P w = .ok u w ∧ PtR w Pr ρ ⟨b, vec.k.sz, n.toNat, 0⟩ u := by
  obtain ⟨_, h⟩ := slice_ok hH hx hs
  obtain ⟨i, z, d, hi, hsz, _⟩ := hT.ek e kd he
  rcases h with ⟨_, h2⟩ | ⟨a, cap, rfl, _, _, h4⟩
  · rw [h2] at h1
    simp at h1
    omega
  · refine ⟨_, ?_, by have := h4 n.toNat 0 (by intro e; rw [e] at h1; simp at h1; omega); rw [Nat.add_zero] at this; exact this⟩
    subst hk
    simp [Instr.indexAt, asIntOf, run_underlying (hT.sl t e ht), h0, h1, sizeOf, typeInfo, hi, hsz]

theorem len_ok (hT : TOK P T) (hH : HR w Pr ρ H) {t e ty : Nat} {x : FV} {v : Value} {n : Int} (ht : T.sl t = some e) (hx : FVR w Pr ρ cargs x v) (hn : lenO H x = some n) :
    (Builtin.len_ #[t] ty #[v]).run P w = .ok (.int .i64 n) w := by
  have key : ∀ a l cap, v = .slice a l cap → n = (l : Int) → (Builtin.len_ #[t] ty #[v]).run P w = .ok (.int .i64 n) w := by
    rintro a l cap rfl rfl
    simp [Builtin.len_, run_underlying (hT.sl t e ht), goInt]
  unfold lenO at hn
  split at hn
  · cases hn
    have hv : v = .slice none 0 0 := hx
    exact key _ _ _ hv rfl
  · split at hn
    · rename_i b vec hs
      cases hn
      rcases (slice_ok hH hx hs).2 with ⟨h1, h2⟩ | ⟨a, cap, h1, _⟩
      · exact key _ _ _ h1 (by rw [h2]; rfl)
      · exact key _ _ _ h1 rfl
    · cases hn
end

end Go.Sm
