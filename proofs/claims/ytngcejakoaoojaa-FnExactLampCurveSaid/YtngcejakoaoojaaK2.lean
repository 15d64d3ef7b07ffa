/- A machine on plain data, its laws: part 2. -/
import Derived.Test.YtngcejakoaoojaaK1
import Derived.Laws.Externs
import Derived.Lib.SliceRun
/- The operations that leave memory alone: what the machine says, the model does. -/
namespace Go.Sm
open Go Go.RowKit

def packV : List Value → Value
  | [v] => v
  | vs => .tuple vs.toArray

def RVR (w w' : World) (cargs : List Value) : RV → Value → Prop
  | .el e, v => ElR e v
  | .nil, v => v = .slice none 0 0
  | .fresh e vec, v => ∃ vs, w'.ownsRow 0 e vec.k.sz v vec.xs.length vs ∧ AllR SCR vec.cells vs ∧ ∀ g, v.ownBlock = some g → w.heap.size ≤ g
  | .arg i, v => cargs[i]? = some v
  | .new2 e vec, v => ∃ (z : (k : K) × List (List k.ty)) (us : List Value) (I : Nat → Prop), vec.two = some z ∧ w'.ownsRow 0 e 1 v z.2.length us ∧ AllR (fun xs u => InnR w' I z.1 xs u) z.2 us ∧ DistR us ∧
      (∀ g, v.ownBlock = some g → ¬ I g) ∧ ∀ g, (I g ∨ v.ownBlock = some g) → w.heap.size ≤ g ∧ g < w'.heap.size

def RV.isFresh : RV → Bool
  | .fresh _ _ => true
  | _ => false

/-- What a call hands back: values that fit; what is new lies apart. -/
structure RVs (w w' : World) (cargs : List Value) (rs : List RV) (vs : List Value) : Prop where
  all : AllR (RVR w w' cargs) rs vs
  apart : ∀ (i j : Nat) (r r' : RV) (v v' : Value) (g : Nat), i ≠ j → rs[i]? = some r → rs[j]? = some r' → r.isFresh = true → r'.isFresh = true → vs[i]? = some v → vs[j]? = some v' → v.ownBlock = some g → v'.ownBlock ≠ some g

/-- The function is one with a body. -/
def Real (P : Program) (f : Nat) : Prop := ∃ fn, P.funcs[f]? = some fn ∧ fn.body.isSome = true ∧ (fn.name == "runtime.NumGoroutine") = false

/-- A function that only reads what it is handed: called with what reads so, it hands back this. -/
def COK (P : Program) (f : Nat) (args : List FV) (rs : List RV) : Prop :=
  ∀ (w : World) (cargs : List Value), AllR (FVR w (fun k => k < w.heap.size) [] []) args cargs →
    Calls P f cargs.toArray w fun e w' => ∃ vs, e = .returned (packV vs) ∧ Same w w' ∧ RVs w w' cargs rs vs

/-- A function of the model's own, without a body. -/
def XR (P : Program) (f : Nat) (args : List FV) (rs : List RV) : Prop :=
  ∃ fn e c, P.funcs[f]? = some fn ∧ (fn.name == "runtime.NumGoroutine") = false ∧ fn.body.isNone = true ∧ Extern.findNext fn = none ∧ Extern.find fn = some e ∧ rs = [.el c] ∧
    ∀ (w : World) (cargs : List Value), AllR (FVR w (fun k => k < w.heap.size) [] []) args cargs → ∃ v w', (e cargs.toArray).run P w = .ok v w' ∧ ElR c v ∧ Same w w'

def CallOK (P : Program) (f : Nat) (args : List FV) (rs : List RV) : Prop := (Real P f ∧ COK P f args rs) ∨ XR P f args rs

/-- A slice of slices with what it holds: in blocks of their own. -/
def LL2 (I : Nat → Prop) (w : World) (v : Value) (e : Nat) (z : (k : K) × List (List k.ty)) : Prop :=
  ∃ us, w.ownsRow 0 e 1 v z.2.length us ∧ AllR (fun xs u => InnR w I z.1 xs u) z.2 us ∧ DistR us ∧ (∀ g, v.ownBlock = some g → ¬ I g) ∧ ∀ g, (I g ∨ v.ownBlock = some g) → g < w.heap.size

/-- A function that writes the slice of slices it is handed first. -/
def CM2OK (P : Program) (f : Nat) (z : (k : K) × List (List k.ty)) (args : List FV) (rs : List RV) (z' : (k : K) × List (List k.ty)) : Prop :=
  ∀ (w : World) (e : Nat) (v : Value) (I : Nat → Prop) (cargs : List Value), LL2 I w v e z →
    AllR (FVR w (fun k => k < w.heap.size ∧ v.ownBlock ≠ some k ∧ ¬ I k) [] []) args cargs →
    Calls P f (v :: cargs).toArray w fun en w' => ∃ vs, en = .returned (packV vs) ∧ Keep (fun k => k < w.heap.size ∧ v.ownBlock ≠ some k ∧ ¬ I k) w w' ∧
      (∃ I', LL2 I' w' v e z' ∧ ∀ g, I' g → I g ∨ w.heap.size ≤ g) ∧ RVs w w' (v :: cargs) rs vs

/-- A function that writes its first argument's row: what that holds behind the call. -/
def CM1OK (P : Program) (f : Nat) (vec : Vec) (args : List FV) (rs : List RV) (vec' : Vec) : Prop :=
  ∀ (w : World) (e : Nat) (v : Value) (cargs : List Value), (∃ vs, w.ownsRow 0 e vec.k.sz v vec.xs.length vs ∧ AllR SCR vec.cells vs) →
    AllR (FVR w (fun k => k < w.heap.size ∧ v.ownBlock ≠ some k) [] []) args cargs →
    Calls P f (v :: cargs).toArray w fun en w' => ∃ vs, en = .returned (packV vs) ∧ Keep (fun k => k < w.heap.size ∧ v.ownBlock ≠ some k) w w' ∧
      (∃ vs', w'.ownsRow 0 e vec'.k.sz v vec'.xs.length vs' ∧ AllR SCR vec'.cells vs') ∧ RVs w w' (v :: cargs) rs vs

def CMOK (P : Program) (f : Nat) (vec : Vec) (args : List FV) (rs : List RV) (vec' : Vec) : Prop :=
  (vec.k.is2 = false → CM1OK P f vec args rs vec') ∧ ∀ z, vec.two = some z → ∃ z', vec'.two = some z' ∧ CM2OK P f z args rs z'

def aggD : TypeDesc → Bool
  | .struct _ | .array _ _ => true
  | _ => false

structure TOK (P : Program) (T : TT) : Prop where
  mo : P.follows .mixedOrders = true
  sl : ∀ t e, T.sl t = some e → P.underlying t = some (.slice e)
  s1 : ∀ t e, T.sl t = some e → ∃ i, P.info? t = some i ∧ i.size = 1 ∧ i.zero = some (.slice none 0 0) ∧ i.bytes ≤ 64
  ek : ∀ t k, T.ek t = some k → ∃ i z d, P.info? t = some i ∧ i.size = k.sz ∧ i.zero = some z ∧ ElR (k.f k.z) z ∧ i.bytes ≤ 64 ∧ P.underlying t = some d ∧
    aggD d = k.agg
  fo : ∀ t f o, T.fo t f = some o → ∃ fs fd i d, P.underlying t = some (.struct fs) ∧ fs[f]? = some fd ∧ fd.offset = o ∧ P.info? fd.type = some i ∧ i.size = 1 ∧
    P.underlying fd.type = some d ∧ aggD d = false
  bd : ∀ t k, T.ek t = some k → k.agg = true → ∃ (fs : Array Field) (places : Array (Nat × Nat)), P.underlying t = some (.struct fs) ∧
    (∀ w : World, (fs.mapM fun f => (do pure (f.offset, ← sizeOf f.type) : Sem (Nat × Nat))).run P w = .ok places w) ∧ ∀ f o, T.fo t f = some o → places[f]? = some (o, 1) ∧ o < k.sz
  nk : ∀ t n, T.nk t = some n → P.underlying t = some n.desc
  S : ∀ f args k out, T.S f args k = some out → ∃ rs, CallOK P f args rs ∧ k rs = some out
  M : ∀ f vec args k out, T.M f vec args k = some out → ∃ rs vec', Real P f ∧ CMOK P f vec args rs vec' ∧ k rs vec' = some out

/-- What is asked of one operation. -/
def Yields (P : Program) (o : Oper) (a : Act) (w : World) (Φ : Value → World → Prop) : Prop :=
  match (execOp a.eval o).run P w with
  | .ok (.value v) w' => Φ v w'
  | .ok .skip w' => Φ undef w'
  | .ok (.enter f args) w' => Calls P f args w' fun e w'' => ∃ v, e = .returned v ∧ Φ v w''
  | _ => False

theorem Yields.wp {P : Program} {o : Oper} {a : Act} {w : World} {Φ : Value → World → Prop} {K : Act → World → Prop} {Q : Exit → Act → World → Prop}
    (h : Yields P o a w Φ) (hk : ∀ v w', Φ v w' → K (a.put o.dst v) w') : o.wp P a w K Q := by
  unfold Yields at h
  unfold Oper.wp
  generalize (execOp a.eval o).run P w = r at *
  cases r with
  | ok n w' =>
    cases n <;> simp only at h <;> simp only [Oper.upon]
    case value v => exact hk _ _ h
    case skip => exact hk _ _ h
    case enter f args =>
      exact h.mono fun e w'' ⟨v, he, hv⟩ => by subst he; exact hk _ _ hv
  | halt x w' => exact h.elim

theorem Yields.mono {P : Program} {o : Oper} {a : Act} {w : World} {Φ Φ' : Value → World → Prop} (h : Yields P o a w Φ) (hm : ∀ v w', Φ v w' → Φ' v w') : Yields P o a w Φ' := by
  unfold Yields at *
  generalize (execOp a.eval o).run P w = r at *
  cases r with
  | ok n w' =>
    cases n <;> simp only at h ⊢
    case value v => exact hm _ _ h
    case skip => exact hm _ _ h
    case enter f args => exact h.mono fun e w'' ⟨v, he, hv⟩ => ⟨v, he, hm _ _ hv⟩
  | halt x w' => exact h.elim

theorem yields_value {P : Program} {o : Oper} {a : Act} {w w' : World} {x : Sem Value} {v : Value} {Φ : Value → World → Prop} (he : execOp a.eval o = (do pure (.value (← x)))) (hx : x.run P w = .ok v w') (h : Φ v w') : Yields P o a w Φ := by
  unfold Yields
  rw [he]
  simp only [Sem.run_bind, hx, Result.andThen_ok, Sem.run_pure]
  exact h

theorem yields_gives {P : Program} {o : Oper} {a : Act} {w : World} {x : Sem Value} {Ψ : Value → Prop} (he : execOp a.eval o = (do pure (.value (← x)))) (hx : Gives P w x Ψ) : Yields P o a w (fun v w' => Ψ v ∧ Same w w') := by
  obtain ⟨v, w', h1, h2, h3⟩ := hx
  exact yields_value he h1 ⟨h2, h3⟩

/-- The operands read as the machine has them. -/
structure Opd (Pr : Nat → Prop) (w : World) (ρ cargs : List Value) (s : St) (a : Act) (op : Op) : Prop where
  fv : ∀ x ∈ op.operands, ∀ v, evO s x = some v → FVR w Pr ρ cargs v (a.eval x)
  tup : ∀ t, .tmp t ∈ op.operands → ∀ xs, lk s.sl t = some (.tup xs) → ∃ vs, a.eval (.tmp t) = .tuple vs.toArray ∧ AllR (FVR w Pr ρ cargs) xs vs

theorem constO_ok {v : Value} {x : FV} (h : constO v = some x) (w : World) (Pr : Nat → Prop) (ρ cargs : List Value) : FVR w Pr ρ cargs x v := by
  unfold constO at h
  split at h
  · cases h; exact rfl
  · cases h; exact rfl
  · rename_i k b
    cases hn : isN k b with
    | true => rw [hn] at h; cases h
    | false => rw [hn] at h; cases h; exact ⟨b, rfl, cn_num hn⟩
  · rename_i k a b
    cases hn : isN k a || isN k b with
    | true => rw [hn] at h; cases h
    | false =>
      rw [hn] at h
      cases h
      rw [Bool.or_eq_false_iff] at hn
      exact ⟨a, b, rfl, cn_num hn.1, cn_num hn.2⟩
  · cases h; exact rfl
  · cases h

/-- The slots that an operation looks at read so: then its operands do. -/
theorem Opd.of_slots {Pr : Nat → Prop} {w : World} {ρ cargs : List Value} {s : St} {a : Act} {op : Op}
    (h : ∀ t, .tmp t ∈ op.operands → ∀ v, lk s.sl t = some v → AVR w Pr ρ cargs v (a.tmps.getD t undef)) : Opd Pr w ρ cargs s a op := by
  refine ⟨fun x hx v hv => ?_, fun t ht xs hxs => h t ht _ hxs⟩
  cases x with
  | tmp t =>
    unfold evO at hv
    dsimp only at hv
    split at hv
    · rename_i u hu
      cases hv
      exact h t hx _ hu
    · cases hv
  | const c => exact constO_ok hv w Pr ρ cargs
  | global g => cases hv
  | func f =>
    simp only [evO, Option.some.injEq] at hv
    subst hv
    exact ⟨[], rfl, trivial⟩

/-! ### Reading memory -/

section
variable {P : Program} {T : TT} {w : World} {Pr : Nat → Prop} {ρ cargs : List Value} {H : Hp}

/-- Where a pointer leads, the cells of its base are there. -/
theorem base_cells (hH : HR w Pr ρ H) (hp : ∀ k, Pr k → k < w.heap.size) {p : PT} {v : Value} {vec : Vec} (hv : PtR w Pr ρ p v) (hb : baseVec H p.b = some vec) :
    ∃ a, v = .pointer (some (a.add (p.i * p.sz + p.j))) ∧ CellsR w a vec.cells ∧ a.block < w.heap.size := by
  unfold PtR at hv
  split at hv
  · rename_i vec' hpv
    rw [hpv] at hb
    cases hb
    obtain ⟨a, h1, h2, _, h4⟩ := hv
    exact ⟨a, h4, h2, hp _ h1⟩
  · rename_i r hpr
    rw [hpr] at hb
    obtain ⟨vr, g, h1, h2, h3⟩ := hv
    unfold baseVec at hb
    dsimp only at hb
    split at hb
    · rename_i row hrow
      cases hb
      obtain ⟨v', hv', vs, hown, hvs, _⟩ := hH.row r row hrow
      rw [h1] at hv'
      cases hv'
      refine ⟨⟨g, 0, none⟩, ?_, ?_, (hown.lt g h2).2⟩
      · rw [h3]
        unfold Addr.add
        split
        · rename_i h0; rw [h0]
        · simp
      · intro i c hi
        obtain ⟨u, hu, hc⟩ := hvs.get i c hi
        exact ⟨u, hown.cells h2 i u hu, hc⟩
    · cases hb
  · rename_i j hpj
    rw [hpj] at hb
    cases hb
  · rename_i kd xss hpj
    rw [hpj] at hb
    cases hb

theorem cells_list {a : Addr} {cs : List SC} {n m : Nat} (h : CellsR w a cs) (hn : n + m ≤ cs.length) :
    ∃ vs, vs.length = m ∧ AllR SCR ((cs.drop n).take m) vs ∧ ∀ j u, vs[j]? = some u → w.cell? ((a.add n).add j) = some u := by
  induction m with
  | zero => exact ⟨[], rfl, by simp [AllR], by simp⟩
  | succ m ih =>
    obtain ⟨vs, h1, h2, h3⟩ := ih (by omega)
    have hlt : n + m < cs.length := by omega
    obtain ⟨u, hu, hs⟩ := h (n + m) cs[n + m] (List.getElem?_eq_getElem hlt)
    refine ⟨vs ++ [u], by simp [h1], ?_, ?_⟩
    · have e : (cs.drop n).take (m + 1) = (cs.drop n).take m ++ [cs[n + m]] := by
        rw [List.take_add_one, List.getElem?_drop, List.getElem?_eq_getElem hlt]; rfl
      rw [e]
      exact h2.append ⟨hs, trivial⟩
    · intro j x hx
      rw [List.getElem?_append] at hx
      split at hx
      · exact h3 j x hx
      · rename_i hj
        have : j = m := by
          rw [h1] at hj hx
          by_cases e : j - m = 0
          · omega
          · obtain ⟨q, hq⟩ : ∃ q, j - m = q + 1 := ⟨j - m - 1, by omega⟩
            rw [hq] at hx
            simp at hx
        subst this
        rw [h1] at hx
        simp at hx
        subst hx
        rw [add_add]
        exact hu

theorem isAgg_run {t : Nat} {d : TypeDesc} {b : Bool} (hu : P.underlying t = some d) (hd : aggD d = b) : (isAgg t).run P w = .ok b w := by
  unfold isAgg
  rw [Sem.run_bind, run_underlying hu w]
  cases d <;> simp [aggD] at hd <;> simp [← hd]

/-- What lies at element i, from cell j on. -/
theorem elt_cells {a : Addr} {vec : Vec} {x : vec.k.ty} {i : Nat} (h : CellsR w a vec.cells) (hx : vec.xs[i]? = some x) :
    ∃ vs, vs.length = vec.k.sz ∧ AllR SCR (vec.k.f x).cells vs ∧ ∀ j u, vs[j]? = some u → w.cell? ((a.add (i * vec.k.sz)).add j) = some u := by
  have hi : i < vec.xs.length := by
    rcases Nat.lt_or_ge i vec.xs.length with h' | h'
    · exact h'
    · rw [List.getElem?_eq_none h'] at hx; cases hx
  have hle : i * vec.k.sz + vec.k.sz ≤ vec.cells.length := by
    rw [vec.len_cells]
    calc i * vec.k.sz + vec.k.sz = (i + 1) * vec.k.sz := by rw [Nat.add_mul]; omega
      _ ≤ vec.xs.length * vec.k.sz := Nat.mul_le_mul_right _ hi
  obtain ⟨vs, h1, h2, h3⟩ := cells_list h hle
  refine ⟨vs, h1, ?_, h3⟩
  have e : (vec.cells.drop (i * vec.k.sz)).take vec.k.sz = (vec.k.f x).cells := by
    apply List.ext_getElem?
    intro j
    rw [List.getElem?_take]
    split
    · rename_i hj
      rw [List.getElem?_drop]
      exact vec.get_cells i j x hx hj
    · rename_i hj
      rw [List.getElem?_eq_none]
      rw [vec.k.len_f]
      omega
  rw [e] at h2
  exact h2

theorem loadD_ok (hT : TOK P T) {t : Nat} {p : PT} {k : FV → R} {out : Out} (h : loadD T H t p k = some out) :
    ∃ x, k x = some out ∧ ∀ (w : World) (Pr : Nat → Prop) (ρ cargs : List Value) (v : Value), (∀ k, Pr k → k < w.heap.size) → HR w Pr ρ H → PtR w Pr ρ p v → ∃ u, (Instr.loadAt t v).run P w = .ok u w ∧ FVR w Pr ρ cargs x u := by
  unfold loadD at h
  split at h
  · rename_i q vec hq hb
    obtain ⟨i, z, d, hi, hsz, _, _, _, hd, hagg⟩ := hT.ek t q hq
    cases hs : Nat.beq p.sz vec.k.sz with
    | false => rw [hs] at h; cases h
    | true =>
    rw [hs] at h
    replace hs := Nat.eq_of_beq_eq_true hs
    simp only [cond_true] at h
    split at h
    · rename_i a ha
      cases hqa : q.agg with
      | true =>
        rw [hqa] at h hagg
        simp only [cond_true] at h
        cases hc : (decide (q = vec.k) && Nat.beq p.j 0) with
        | false => rw [hc] at h; cases h
        | true =>
          rw [hc] at h
          rw [Bool.and_eq_true] at hc
          have hqk : q = vec.k := of_decide_eq_true hc.1
          have hj : p.j = 0 := Nat.eq_of_beq_eq_true hc.2
          refine ⟨_, h, ?_⟩
          intro w Pr ρ cargs v hp hH hv
          obtain ⟨b, rfl, hcells, _⟩ := base_cells hH hp hv hb
          obtain ⟨vs, h1, h2, h3⟩ := elt_cells hcells ha
          obtain ⟨cs, hcs⟩ := K.agg_f (by rw [← hqk]; exact hqa) a
          refine ⟨.agg vs.toArray, ?_, ?_⟩
          · have hl := run_loadCells_list (P := P) w (b.add (p.i * p.sz + p.j)) vs (by rw [hj, hs, Nat.add_zero]; exact h3)
            rw [h1, ← hqk, ← hsz] at hl
            simp [Instr.loadAt, Instr.sureAddr, loadVar, isAgg_run hd hagg, sizeOf, typeInfo, hi, hl]
          · show ElR (vec.k.f a) _
            rw [hcs] at h2 ⊢
            exact ⟨vs, rfl, h2⟩
      | false =>
        rw [hqa] at h hagg
        simp only [cond_false] at h
        split at h
        · rename_i c hc
          refine ⟨_, h, ?_⟩
          intro w Pr ρ cargs v hp hH hv
          obtain ⟨b, rfl, hcells, _⟩ := base_cells hH hp hv hb
          obtain ⟨vs, h1, h2, h3⟩ := elt_cells hcells ha
          obtain ⟨u, hu, hcu⟩ := h2.get p.j c hc
          have h4 := h3 p.j u hu
          rw [add_add, ← hs] at h4
          refine ⟨u, ?_, hcu⟩
          simp [Instr.loadAt, Instr.sureAddr, loadVar, isAgg_run hd hagg, h4]
        · cases h
    · cases h
  · cases h

theorem loadK_ok (hT : TOK P T) {t : Nat} {p : PT} {k : FV → R} {out : Out} (h : loadK T H t p k = some out) :
    ∃ x, k x = some out ∧ ∀ (w : World) (Pr : Nat → Prop) (ρ cargs : List Value) (v : Value), (∀ k, Pr k → k < w.heap.size) → HR w Pr ρ H → PtR w Pr ρ p v → ∃ u, (Instr.loadAt t v).run P w = .ok u w ∧ FVR w Pr ρ cargs x u := by
  unfold loadK at h
  have hagg : ∀ e, aggD (.slice e) = false := fun _ => rfl
  split at h
  · rename_i j hb
    split at h
    · rename_i e he
      cases hz : Nat.beq (p.i * p.sz + p.j) 0 with
      | false => rw [hz] at h; cases h
      | true =>
        rw [hz] at h
        refine ⟨_, h, ?_⟩
        intro w Pr ρ cargs v hp hH hv
        unfold PtR at hv
        rw [hb] at hv
        obtain ⟨a, u, h1, h2, h3, rfl⟩ := hv
        rw [Nat.eq_of_beq_eq_true hz]
        exact ⟨u, by simp [Instr.loadAt, Instr.sureAddr, loadVar, isAgg_run (hT.sl t e he) (hagg e), Addr.add, h3], h2⟩
    · cases h
  · rename_i kd xss hb
    split at h
    · rename_i e he
      split at h
      · rename_i xs hi
        refine ⟨_, h, ?_⟩
        intro w Pr ρ cargs v hp hH hv
        unfold PtR at hv
        rw [hb] at hv
        obtain ⟨a, h1, h2, rfl⟩ := hv
        obtain ⟨u, hu, hw⟩ := h2 _ xs hi
        exact ⟨u, by simp [Instr.loadAt, Instr.sureAddr, loadVar, isAgg_run (hT.sl t e he) (hagg e), hu], hw, fun i hi => by cases hi⟩
      · cases h
    · cases h
  · exact loadD_ok hT h

theorem fieldAddr_ok (hT : TOK P T) {t f o : Nat} (h : T.fo t f = some o) (a : Addr) : (Instr.fieldAt t (.pointer (some a)) f).run P w = .ok (.pointer (some (a.add o))) w := by
  obtain ⟨fs, fd, i, d, h1, h2, h3, h4, h5, _, _⟩ := hT.fo t f o h
  simp [Instr.fieldAt, run_underlying h1, h2, Instr.sureAddr, fieldPlace, sizeOf, typeInfo, h4, h5, h3]

theorem PtR.add {p : PT} {v : Value} {o : Nat} (h : PtR w Pr ρ p v) : ∃ a, v = .pointer (some a) ∧ PtR w Pr ρ ⟨p.b, p.sz, p.i, p.j + o⟩ (.pointer (some (a.add o))) := by
  unfold PtR at *
  split at h
  · rename_i vec hb
    obtain ⟨a, h1, h2, h3, h4⟩ := h
    refine ⟨_, h4, ?_⟩
    simp only [hb]
    exact ⟨a, h1, h2, h3, by rw [add_add, Nat.add_assoc]⟩
  · rename_i r hb
    obtain ⟨vr, g, h1, h2, h3⟩ := h
    refine ⟨_, h3, ?_⟩
    simp only [hb]
    refine ⟨vr, g, h1, h2, ?_⟩
    unfold Addr.add
    split
    · rename_i h0; subst h0; rfl
    · simp [Nat.add_assoc]
  · rename_i j hb
    obtain ⟨a, u, h1, h2, h3, h4⟩ := h
    refine ⟨_, h4, ?_⟩
    simp only [hb]
    exact ⟨a, u, h1, h2, h3, by rw [add_add, Nat.add_assoc]⟩
  · rename_i kd xss hb
    obtain ⟨a, h1, h2, h3⟩ := h
    refine ⟨_, h3, ?_⟩
    simp only [hb]
    exact ⟨a, h1, h2, by rw [add_add, Nat.add_assoc]⟩

/-- A slice's value: its base, its length. -/
theorem slice_ok (hH : HR w Pr ρ H) {x : FV} {v : Value} {b : Base} {vec : Vec} (hx : FVR w Pr ρ cargs x v) (hs : slice? H x = some (b, vec)) :
    baseVec H b = some vec ∧ ((v = .slice none 0 0 ∧ vec.xs = []) ∨ ∃ a cap, v = .slice (some a) vec.xs.length cap ∧ vec.xs.length ≤ cap ∧ CellsR w a vec.cells ∧
      ∀ i j : Nat, vec.xs ≠ [] → PtR w Pr ρ ⟨b, vec.k.sz, i, j⟩ (.pointer (some (a.add (i * vec.k.sz + j))))) := by
  unfold slice? at hs
  split at hs
  · rename_i o vc
    simp only [Option.some.injEq, Prod.mk.injEq] at hs
    obtain ⟨rfl, rfl⟩ := hs
    refine ⟨rfl, ?_⟩
    rcases hx.1 with h | ⟨a, cap, h1, h2, h3, h4⟩
    · exact .inl h
    · exact .inr ⟨a, cap, h1, h2, h4, fun i j hne => ⟨a, h3.resolve_left hne, h4, rfl, rfl⟩⟩
  · rename_i r
    split at hs
    · rename_i row hrow
      simp only [Option.some.injEq, Prod.mk.injEq] at hs
      obtain ⟨rfl, rfl⟩ := hs
      refine ⟨by simp [baseVec, hrow], ?_⟩
      obtain ⟨v', hv', vs, hown, hvs, _⟩ := hH.row r row hrow
      have hx' : ρ[r]? = some v := hx
      rw [hx'] at hv'
      cases hv'
      rcases hown.2 with ⟨h1, h2⟩ | ⟨g, cap, cur, h1, _, h3, h4, _⟩
      · exact .inl ⟨h1, List.eq_nil_of_length_eq_zero h2⟩
      · refine .inr ⟨⟨g, 0, none⟩, cap, h1, h4, ?_, ?_⟩
        · intro i c hi
          obtain ⟨u, hu, hc⟩ := hvs.get i c hi
          exact ⟨u, hown.cells (by rw [h1]; rfl) i u hu, hc⟩
        · intro i j _
          refine ⟨v, g, hx', by rw [h1]; rfl, ?_⟩
          unfold Addr.add
          split
          · rename_i h0; rw [h0]
          · simp
    · cases hs
  · rename_i kd
    simp only [Option.some.injEq, Prod.mk.injEq] at hs
    obtain ⟨rfl, rfl⟩ := hs
    obtain ⟨a, cap, h⟩ := hx
    exact ⟨rfl, .inr ⟨a, cap, h, Nat.zero_le _, fun i s hi => by simp [Vec.cells] at hi, fun i j hne => absurd rfl hne⟩⟩
  · cases hs

theorem indexAddr_ok (hT : TOK P T) (hH : HR w Pr ρ H) {t e : Nat} {kd : K} {x : FV} {v : Value} {b : Base} {vec : Vec} {q : IntKind} {n : Int} (ht : T.sl t = some e) (he : T.ek e = some kd) (hk : kd = vec.k)
    (hx : FVR w Pr ρ cargs x v) (hs : slice? H x = some (b, vec)) (h0 : 0 ≤ n) (h1 : n < (vec.xs.length : Int)) :
    ∃ u, (Instr.indexAt t v (.int q n)).run P w = .ok u w ∧ PtR w Pr ρ ⟨b, vec.k.sz, n.toNat, 0⟩ u := by
  obtain ⟨_, h⟩ := slice_ok hH hx hs
  obtain ⟨i, z, d, hi, hsz, _⟩ := hT.ek e kd he
  rcases h with ⟨_, h2⟩ | ⟨a, cap, rfl, _, _, h4⟩
  · rw [h2] at h1
    simp at h1
    omega
  · refine ⟨_, ?_, by have := h4 n.toNat 0 (by intro e; rw [e] at h1; simp at h1; omega); rw [Nat.add_zero] at this; exact this⟩
    subst hk
    simp [Instr.indexAt, asIntOf, run_underlying (hT.sl t e ht), h0, h1, sizeOf, typeInfo, hi, hsz]

/-- A pointer to one of the slices of a slice of slices. -/
theorem indexIn_ok (hT : TOK P T) {t e e2 : Nat} {kd : K} {xss : List (List kd.ty)} {v : Value} {q : IntKind} {n : Int} (ht : T.sl t = some e) (he : T.sl e = some e2)
    (hx : VvR w Pr v kd xss) (h0 : 0 ≤ n) (h1 : n < (xss.length : Int)) :
    ∃ u, (Instr.indexAt t v (.int q n)).run P w = .ok u w ∧ ∃ a, Pr a.block ∧ InR w Pr a kd xss ∧ u = .pointer (some (a.add n.toNat)) := by
  obtain ⟨i, hi, hsz, _⟩ := hT.s1 e e2 he
  rcases hx with ⟨_, h2⟩ | ⟨a, cap, rfl, _, h3, h4⟩
  · rw [h2] at h1
    simp at h1
    omega
  · refine ⟨.pointer (some (a.add n.toNat)), ?_, a, h3.resolve_left (by intro e; rw [e] at h1; simp at h1; omega), h4, rfl⟩
    simp [Instr.indexAt, asIntOf, run_underlying (hT.sl t e ht), h0, h1, sizeOf, typeInfo, hi, hsz]

/-- One of the slices of a slice of slices. -/
theorem loadIn_ok (hT : TOK P T) {t e i : Nat} {kd : K} {xss : List (List kd.ty)} {xs : List kd.ty} {v : Value} (ht : T.sl t = some e) (hx : ∃ a, Pr a.block ∧ InR w Pr a kd xss ∧ v = .pointer (some (a.add i))) (hi : xss[i]? = some xs) :
    ∃ u, (Instr.loadAt t v).run P w = .ok u w ∧ VwR w Pr u ⟨kd, xs⟩ := by
  obtain ⟨a, _, h2, rfl⟩ := hx
  obtain ⟨u, hu, hv⟩ := h2 i xs hi
  have hagg : aggD (.slice e) = false := rfl
  exact ⟨u, by simp [Instr.loadAt, Instr.sureAddr, loadVar, isAgg_run (hT.sl t e ht) hagg, hu], hv⟩

theorem indexM_ok (hT : TOK P T) {t e e2 r e' : Nat} {π : List (Option Nat)} {v : Value} {q : IntKind} {n : Int} (ht : T.sl t = some e) (he : T.sl e = some e2)
    (hx : FVR w Pr ρ cargs (.mv r e' π) v) (h0 : 0 ≤ n) (h1 : n < (π.length : Int)) :
    ∃ u, (Instr.indexAt t v (.int q n)).run P w = .ok u w ∧ FVR w Pr ρ cargs (.pm r e' π n.toNat) u := by
  obtain ⟨i, hi, hsz, _⟩ := hT.s1 e e2 he
  obtain ⟨hv, hM⟩ := hx
  have hM2 := hM
  obtain ⟨v', g, us, a1, a2, a3, a4, a5⟩ := hM2
  rw [hv] at a1
  cases a1
  rcases a4.2 with ⟨rfl, _⟩ | ⟨g', cap, cur, rfl, _⟩
  · cases a2
  · refine ⟨.pointer (some ((⟨g', 0, none⟩ : Addr).add n.toNat)), ?_, ⟨_, g', hv, rfl, ?_⟩, hM⟩
    · simp [Instr.indexAt, asIntOf, run_underlying (hT.sl t e ht), h0, h1, sizeOf, typeInfo, hi, hsz]
    · unfold Addr.add
      split
      · rename_i h5; rw [h5]
      · simp
theorem loadM_ok (hT : TOK P T) {t e r e' i j : Nat} {π : List (Option Nat)} {v : Value} (ht : T.sl t = some e) (hx : FVR w Pr ρ cargs (.pm r e' π i) v) (hi : π[i]? = some (some j)) :
    ∃ u, (Instr.loadAt t v).run P w = .ok u w ∧ FVR w Pr ρ cargs (.own j) u := by
  obtain ⟨⟨vr, g, h1, h2, h3⟩, v', g', us, a1, a2, a3, a4, a5⟩ := hx
  rw [h1] at a1
  cases a1
  rw [h2] at a2
  cases a2
  obtain ⟨u, hu, hj⟩ := a5 i j hi
  have hc := a4.cells h2 i u hu
  have hcell : w.cell? ⟨g, i, none⟩ = some u := by
    first
      | exact hc
      | (unfold Addr.add at hc; split at hc <;> simp_all)
  have hagg : aggD (.slice e) = false := rfl
  subst h3
  exact ⟨u, by simp [Instr.loadAt, Instr.sureAddr, loadVar, isAgg_run (hT.sl t e ht) hagg, hcell], hj⟩

/-- A pointer to one of the slices of a slice of slices of the call's own. -/
theorem indexOwn_ok (hT : TOK P T) (hH : HR w Pr ρ H) {t e e2 r : Nat} {row : Row} {v : Value} {q : IntKind} {n : Int} (ht : T.sl t = some e) (he : T.sl e = some e2) (hrow : llAt H r = some row)
    (hx : ρ[r]? = some v) (h0 : 0 ≤ n) (h1 : n < (row.v.xs.length : Int)) :
    ∃ u, (Instr.indexAt t v (.int q n)).run P w = .ok u w ∧ ∃ vr g, ρ[r]? = some vr ∧ vr.ownBlock = some g ∧ u = .pointer (some ⟨g, n.toNat, none⟩) := by
  obtain ⟨i, hi, hsz, _⟩ := hT.s1 e e2 he
  obtain ⟨z, hz⟩ := two_some (llAt_is2 hrow).1
  obtain ⟨I, hI⟩ := hH.ll
  obtain ⟨v', us, h2, h3, _⟩ := hI r row z hrow hz
  rw [hx] at h2
  cases h2
  rw [← two_len hz] at h1
  rcases h3.2 with ⟨_, h4⟩ | ⟨g, cap, cur, rfl, _⟩
  · omega
  · refine ⟨.pointer (some ((⟨g, 0, none⟩ : Addr).add n.toNat)), ?_, _, g, hx, rfl, ?_⟩
    · simp [Instr.indexAt, asIntOf, run_underlying (hT.sl t e ht), h0, h1, sizeOf, typeInfo, hi, hsz]
    · unfold Addr.add
      split
      · rename_i h5; rw [h5]
      · simp

theorem len_ok (hT : TOK P T) (hH : HR w Pr ρ H) {t e ty : Nat} {x : FV} {v : Value} {n : Int} (ht : T.sl t = some e) (hx : FVR w Pr ρ cargs x v) (hn : lenO H x = some n) :
    (Builtin.len_ #[t] ty #[v]).run P w = .ok (.int .i64 n) w := by
  have key : ∀ a l cap, v = .slice a l cap → n = (l : Int) → (Builtin.len_ #[t] ty #[v]).run P w = .ok (.int .i64 n) w := by
    rintro a l cap rfl rfl
    simp [Builtin.len_, run_underlying (hT.sl t e ht), goInt]
  unfold lenO at hn
  split at hn
  · cases hn
    have hv : v = .slice none 0 0 := hx
    exact key _ _ _ hv rfl
  · cases hn
    rcases hx.1 with ⟨h1, h2⟩ | ⟨a, cap, h1, _⟩
    · exact key _ _ _ h1 (by rw [h2]; rfl)
    · exact key _ _ _ h1 rfl
  · cases hn
    obtain ⟨hv, v', g, us, a1, a2, a3, a4, a5⟩ := hx
    rw [hv] at a1
    cases a1
    rcases a4.2 with ⟨rfl, _⟩ | ⟨g', cap, cur, rfl, _⟩
    · cases a2
    · exact key _ _ _ rfl rfl
  · split at hn
    · rename_i b vec hs
      cases hn
      rcases (slice_ok hH hx hs).2 with ⟨h1, h2⟩ | ⟨a, cap, h1, _⟩
      · exact key _ _ _ h1 (by rw [h2]; rfl)
      · exact key _ _ _ h1 rfl
    · unfold lenLL at hn
      split at hn
      · rename_i r _ _ _ _
        split at hn
        · rename_i row hrow
          cases hn
          obtain ⟨z, hz⟩ := two_some (llAt_is2 hrow).1
          obtain ⟨I, hI⟩ := hH.ll
          obtain ⟨v', us, h1, h2, _⟩ := hI r row z hrow hz
          have hx' : ρ[r]? = some v := hx
          rw [hx'] at h1
          cases h1
          have hlen := two_len hz
          rcases h2.2 with ⟨h3, h4⟩ | ⟨g, cap, cur, h3, _⟩
          · exact key _ _ _ h3 (by rw [← hlen, h4])
          · exact key _ _ _ h3 (by rw [hlen])
        · cases hn
      · cases hn
end

end Go.Sm

/- One operation that leaves memory alone: what the machine says, the model does, in whatever order. -/
namespace Go.Sm
open Go Go.RowKit

section
variable {P : Program} {T : TT}

theorem scs_of {s : St} {op : Op} {x : Operand} {c : SC} {Pr : Nat → Prop} {w : World} {ρ cargs : List Value} {a : Act} (ho : Opd Pr w ρ cargs s a op) (hx : x ∈ op.operands) (hv : evO s x = some (.el (.sc c))) : SCR c (a.eval x) := ho.fv x hx _ hv

theorem FVR.same {w w' : World} {Pr : Nat → Prop} {ρ cargs : List Value} {x : FV} {v : Value} (h : FVR w Pr ρ cargs x v) (hs : Same w w') (hp : ∀ k, Pr k → k < w.heap.size) : FVR w' Pr ρ cargs x v :=
  h.keep (fun k hk => hs.block k (hp k hk)) (fun _ _ h => h)
theorem AVR.same {w w' : World} {Pr : Nat → Prop} {ρ cargs : List Value} {x : AV} {v : Value} (h : AVR w Pr ρ cargs x v) (hs : Same w w') (hp : ∀ k, Pr k → k < w.heap.size) : AVR w' Pr ρ cargs x v :=
  h.keep (fun k hk => hs.block k (hp k hk)) (fun _ _ h => h)

/-- What is asked of a quiet operation: in every world that has what was there, its value fits and what was there stays. -/
def Quiet (P : Program) (o : Oper) (s : St) (av : AV) : Prop :=
  ∀ (a : Act) (w : World) (Pr : Nat → Prop) (ρ cargs : List Value), (∀ k, Pr k → k < w.heap.size) → HR w Pr ρ s.H → Opd Pr w ρ cargs s a o.op →
    Yields P o a w fun v w' => AVR w Pr ρ cargs av v ∧ Same w w'

theorem quiet_fv {o : Oper} {s : St} {x : FV}
    (h : ∀ (a : Act) (w : World) (Pr : Nat → Prop) (ρ cargs : List Value), (∀ k, Pr k → k < w.heap.size) → HR w Pr ρ s.H → Opd Pr w ρ cargs s a o.op →
      ∃ X : Sem Value, execOp a.eval o = (do pure (.value (← X))) ∧ Gives P w X (FVR w Pr ρ cargs x)) : Quiet P o s (.fv x) := by
  intro a w Pr ρ cargs hp hH ho
  obtain ⟨X, h1, h2⟩ := h a w Pr ρ cargs hp hH ho
  exact (yields_gives h1 h2).mono fun v w' ⟨h3, h4⟩ => ⟨h3, h4⟩

theorem gives_ok {w : World} {X : Sem Value} {v : Value} {Φ : Value → Prop} (h : X.run P w = .ok v w) (hv : Φ v) : Gives P w X Φ := ⟨v, w, h, hv, Same.refl w⟩

theorem evAll_mem {s : St} : ∀ {xs : List Operand} {vs : List FV}, evAll s xs = some vs → ∀ {Pr : Nat → Prop} {w : World} {ρ cargs : List Value} {a : Act}, (∀ x ∈ xs, ∀ v, evO s x = some v → FVR w Pr ρ cargs v (a.eval x)) → AllR (FVR w Pr ρ cargs) vs (xs.map a.eval)
  | [], vs, h, _, _, _, _, _, _ => by simp [evAll] at h; subst h; trivial
  | x :: xs, vs, h, Pr, w, ρ, cargs, a, hm => by
    unfold evAll at h
    split at h
    · rename_i y ys hy hys
      cases h
      exact ⟨hm x (by simp) y hy, evAll_mem hys fun z hz => hm z (by simp [hz])⟩
    · cases h

theorem evParts_mem {s : St} : ∀ {ps : List (Nat × Operand)} {vs : List (Nat × FV)}, evParts s ps = some vs → ∀ {Pr : Nat → Prop} {w : World} {ρ cargs : List Value} {a : Act}, (∀ p ∈ ps, ∀ v, evO s p.2 = some v → FVR w Pr ρ cargs v (a.eval p.2)) →
    AllR (fun (x : Nat × FV) (y : Nat × Value) => x.1 = y.1 ∧ FVR w Pr ρ cargs x.2 y.2) vs (ps.map fun p => (p.1, a.eval p.2))
  | [], vs, h, _, _, _, _, _, _ => by simp [evParts] at h; subst h; trivial
  | (i, x) :: ps, vs, h, Pr, w, ρ, cargs, a, hm => by
    unfold evParts at h
    split at h
    · rename_i y ys hy hys
      cases h
      exact ⟨⟨rfl, hm (i, x) (by simp) y hy⟩, evParts_mem hys fun z hz => hm z (by simp [hz])⟩
    · cases h

/-- The built-ins that only compute. -/
theorem AllR.one {α β : Type} {R : α → β → Prop} {a : α} {bs : List β} (h : AllR R [a] bs) : ∃ b, bs = [b] ∧ R a b := by
  match bs, h with
  | [b], h => exact ⟨b, rfl, h.1⟩
theorem AllR.two {α β : Type} {R : α → β → Prop} {a a' : α} {bs : List β} (h : AllR R [a, a'] bs) : ∃ b b', bs = [b, b'] ∧ R a b ∧ R a' b' := by
  match bs, h with
  | [b, b'], h => exact ⟨b, b', rfl, h.1, h.2.1⟩

theorem operands_binOp {o : BinOp} {t t' : Nat} {x y : Operand} : x ∈ (Op.binOp o t x y t').operands ∧ y ∈ (Op.binOp o t x y t').operands := by simp [Op.operands]

theorem foldl_set (off : Nat) : ∀ (vs : List Value) (n : Nat) (cells : Array Value), off + n + vs.length ≤ cells.size →
    ((vs.zipIdx n).foldl (fun (cs : Array Value) (x : Value × Nat) => cs.setIfInBounds (off + x.2) x.1) cells).toList = cells.toList.take (off + n) ++ vs ++ cells.toList.drop (off + n + vs.length)
  | [], n, cells, _ => by simp
  | v :: vs, n, cells, h => by
    have ih := foldl_set off vs (n + 1) (cells.setIfInBounds (off + n) v) (by simp at h ⊢; omega)
    simp only [List.zipIdx_cons, List.foldl_cons]
    rw [ih]
    have e := list_seg_step cells.toList (off + n) v vs (by simp at h ⊢; omega)
    rw [Array.toList_setIfInBounds, List.length_cons, ← e]
    rw [show off + (n + 1) = off + n + 1 from by omega]

/-- One part laid into cells. -/
theorem fill_step (off : Nat) (vs : List Value) (cells : Array Value) (h : off + vs.length ≤ cells.size) :
    (vs.toArray.zipIdx.foldl (fun cs (x : Value × Nat) => cs.setIfInBounds (off + x.2) x.1) cells) = (cells.toList.take off ++ vs ++ cells.toList.drop (off + vs.length)).toArray := by
  apply Array.ext'
  have := foldl_set off vs 0 cells (by simpa using h)
  simp only [Nat.add_zero] at this
  rw [← this]
  simp

/-- A struct that is put together, cell by cell. -/
theorem fill_ok {t sz : Nat} {places : Array (Nat × Nat)} (hp : ∀ f o, T.fo t f = some o → places[f]? = some (o, 1) ∧ o < sz) : ∀ (ps : List (Nat × SC)) (vs : List (Nat × Value)) (cs : List SC) (us : Array Value) (cs' : List SC),
    fillCells T t ps cs = some cs' → AllR (fun (x : Nat × SC) (y : Nat × Value) => x.1 = y.1 ∧ SCR x.2 y.2) ps vs → AllR SCR cs us.toList → us.size = sz →
    ∃ us' : Array Value, Instr.fill (places[·]?) us vs = some us' ∧ AllR SCR cs' us'.toList
  | [], [], cs, us, cs', h, _, hc, _ => by simp [fillCells] at h; subst h; exact ⟨us, rfl, hc⟩
  | (f, c) :: ps, (f', v) :: vs, cs, us, cs', h, hv, hc, hs => by
    obtain ⟨⟨hf, hcv⟩, hr⟩ := hv
    dsimp only at hf hcv
    subst hf
    unfold fillCells at h
    split at h
    · rename_i o ho
      obtain ⟨h1, h2⟩ := hp f o ho
      have hset : us.toList.take o ++ [v] ++ us.toList.drop (o + 1) = us.toList.set o v := by
        rw [List.set_eq_take_append_cons_drop, if_pos (by simp; omega)]
        simp
      obtain ⟨us', h3, h4⟩ := fill_ok hp ps vs (cs.set o c) (us.toList.set o v).toArray cs' h hr (by simpa using hc.set o hcv) (by simpa using hs)
      refine ⟨us', ?_, h4⟩
      unfold Instr.fill
      rw [h1]
      dsimp only
      rw [SCR.cells hcv]
      have hle : ¬ (#[v] : Array Value).size ≠ 1 ∧ ¬ o + (#[v] : Array Value).size > us.size := ⟨by simp, by simp; omega⟩
      rw [if_neg (by simp; omega)]
      have hst := fill_step o [v] us (by simp; omega)
      simp only [List.length_cons, List.length_nil, Nat.zero_add] at hst
      rw [hset] at hst
      rw [show (#[v] : Array Value) = [v].toArray from rfl, hst]
      exact h3
    · cases h
  | [], _ :: _, _, _, _, _, h, _, _ => h.elim
  | _ :: _, [], _, _, _, _, h, _, _ => h.elim

/-- A slice that is put together, element by element. -/
theorem fillVec_ok {k : K} : ∀ (ps : List (Nat × FV)) (vs : List (Nat × Value)) (xs : List k.ty) (us : Array Value) (ys : List k.ty) {Pr : Nat → Prop} {w : World} {ρ cargs : List Value},
    fillVec k ps xs = some ys → AllR (fun (x : Nat × FV) (y : Nat × Value) => x.1 = y.1 ∧ FVR w Pr ρ cargs x.2 y.2) ps vs → AllR SCR (xs.flatMap fun a => (k.f a).cells) us.toList →
    ∃ us' : Array Value, Instr.fill (fun i => some (i * k.sz, k.sz)) us vs = some us' ∧ AllR SCR (ys.flatMap fun a => (k.f a).cells) us'.toList ∧ ys.length = xs.length
  | [], [], xs, us, ys, _, _, _, _, h, _, hc => by simp [fillVec] at h; subst h; exact ⟨us, rfl, hc, rfl⟩
  | (i, x) :: ps, (i', v) :: vs, xs, us, ys, Pr, w, ρ, cargs, h, hv, hc => by
    obtain ⟨⟨hf, hcv⟩, hr⟩ := hv
    dsimp only at hf hcv
    subst hf
    cases x with
    | el e =>
      unfold fillVec at h
      split at h
      · rename_i a ha
        cases hi : decide (i < xs.length) with
        | false => rw [hi] at h; cases h
        | true =>
          rw [hi] at h
          replace hi := of_decide_eq_true hi
          have hfa := K.g_f ha
          subst hfa
          obtain ⟨cs, hcs, hcv⟩ := ElR.cells hcv
          have hl1 : cs.length = k.sz := by rw [← hcv.length, K.len_f]
          have hl2 : us.size = xs.length * k.sz := by rw [← Array.length_toList, ← hc.length, flat_len _ _ k.len_f]
          have hle : i * k.sz + k.sz ≤ us.size := by
            rw [hl2]
            calc i * k.sz + k.sz = (i + 1) * k.sz := by rw [Nat.add_mul]; omega
              _ ≤ xs.length * k.sz := Nat.mul_le_mul_right _ hi
          have hst := fill_step (i * k.sz) cs us (by rw [hl1]; exact hle)
          have hnew : AllR SCR ((xs.set i a).flatMap fun a => (k.f a).cells) (us.toList.take (i * k.sz) ++ cs ++ us.toList.drop (i * k.sz + cs.length)) := by
            rw [flat_set _ _ k.len_f xs i a hi, hl1]
            exact ((hc.take _).append hcv).append (hc.drop _)
          obtain ⟨us', h3, h4, h5⟩ := fillVec_ok ps vs (xs.set i a) (us.toList.take (i * k.sz) ++ cs ++ us.toList.drop (i * k.sz + cs.length)).toArray ys h hr (by simpa using hnew)
          refine ⟨us', ?_, h4, by rw [h5]; simp⟩
          unfold Instr.fill
          dsimp only
          rw [hcs, if_neg (by simp [hl1]; omega), hst]
          exact h3
      · cases h
    | nil => simp [fillVec] at h
    | vw o vec => simp [fillVec] at h
    | own r => simp [fillVec] at h
    | pt p => simp [fillVec] at h
    | fn f caps => simp [fillVec] at h
    | vv o kd xss => simp [fillVec] at h
    | pv kd xss i => simp [fillVec] at h
    | ne k => simp [fillVec] at h
    | pl r i => simp [fillVec] at h
    | mv r e π => simp [fillVec] at h
    | pm r e π i => simp [fillVec] at h
  | [], _ :: _, _, _, _, _, _, _, _, _, h, _ => h.elim
  | _ :: _, [], _, _, _, _, _, _, _, _, h, _ => h.elim

theorem execOp_call {a : Act} {o : Oper} {c : Call} (h : o.op = .call c) : execOp a.eval o = (do let d ← resolve a.eval c o.type; invoke d.target d.args) := by
  unfold execOp; rw [h]

/-- A built-in that is called. -/
theorem yields_builtin {o : Oper} {a : Act} {w w' : World} {b : Builtin} {args : Array Operand} {ts : Array TypeId} {v : Value} {Φ : Value → World → Prop}
    (ho : o.op = .call { callee := .builtin b, args := args, argTypes := ts })
    (h : ∀ consts, (builtin b ts o.type consts (args.map a.eval)).run P w = .ok (.value v) w') (hv : Φ v w') : Yields P o a w Φ := by
  unfold Yields
  rw [execOp_call ho]
  simp only [resolve, invoke, Sem.run_bind, Sem.run_pure, Result.andThen_ok, h]
  exact hv

theorem run_real' (w : World) (ts : Array TypeId) (t : TypeId) (k : FloatKind) (a b : Nat) : (Builtin.real_ ts t #[.complex k a b]).run P w = .ok (.float k a) w := rfl
theorem run_imag' (w : World) (ts : Array TypeId) (t : TypeId) (k : FloatKind) (a b : Nat) : (Builtin.imag_ ts t #[.complex k a b]).run P w = .ok (.float k b) w := rfl
theorem run_complex' (w : World) (ts : Array TypeId) (t : TypeId) (k : FloatKind) (a b : Nat) : (Builtin.complex_ ts t #[.float k a, .float k b]).run P w = .ok (.complex k a b) w := by cases k <;> rfl

theorem map_args {a : Act} {args : Array Operand} {xs : List Value} (h : args.toList.map a.eval = xs) : args.map a.eval = xs.toArray := by
  subst h
  apply Array.ext'
  rw [Array.toList_map]

/-- The built-ins that only compute. -/
theorem quiet_builtin (hT : TOK P T) {o : Oper} {s : St} {k : AV → Hp → R} {out : Out} {b : Builtin} {args : Array Operand} {ts : Array TypeId}
    (ho : o.op = .call { callee := .builtin b, args := args, argTypes := ts }) (q : Bool) (hb : q = true ∨ (b ≠ .append ∧ b ≠ .copy))
    (h : opK T q (.call { callee := .builtin b, args := args, argTypes := ts }) s k = some out) : ∃ av, k av s.H = some out ∧ Quiet P o s av := by
  unfold opK at h
  dsimp only at h
  split at h
  · cases h
  rename_i xs hxs
  have hev : ∀ {Pr : Nat → Prop} {w : World} {ρ cargs : List Value} {a : Act}, Opd Pr w ρ cargs s a o.op → AllR (FVR w Pr ρ cargs) xs (args.toList.map a.eval) := by
    intro Pr w ρ cargs a hop
    refine evAll_mem hxs fun x hx v hv => hop.fv x ?_ v hv
    rw [ho]
    simpa [Op.operands, Call.operands] using hx
  split at h
  · -- len
    rename_i x
    split at h
    · rename_i t ht
      split at h
      · rename_i e n he hn
        refine ⟨_, h, ?_⟩
        intro a w Pr ρ cargs hp hH hop
        obtain ⟨v, hv, hxv⟩ := (hev hop).one
        refine yields_builtin ho (v := .int .i64 n) (w' := w) ?_ ⟨rfl, Same.refl w⟩
        intro consts
        have hts : ts = #[t] := by rw [← Array.toArray_toList (xs := ts), ht]
        rw [map_args hv, hts]
        have := len_ok hT hH (ty := o.type) he hxv hn
        simp [builtin, this]
      · cases h
    · cases h
  · -- max
    rename_i c d
    obtain ⟨r, hr, hm⟩ := mxK_ok h
    refine ⟨_, hr, ?_⟩
    intro a w Pr ρ cargs hp hH hop
    obtain ⟨u, v, hv, hu1, hu2⟩ := (hev hop).two
    obtain ⟨z, w', h1, h2, h3⟩ := hm P w u v hu1 hu2
    simp only [cond_true] at h1
    refine yields_builtin ho (v := z) (w' := w') ?_ ⟨h2, h3⟩
    intro consts
    rw [map_args hv]
    simp [builtin, Builtin.max_, h1]
  · -- min
    rename_i c d
    obtain ⟨r, hr, hm⟩ := mxK_ok h
    refine ⟨_, hr, ?_⟩
    intro a w Pr ρ cargs hp hH hop
    obtain ⟨u, v, hv, hu1, hu2⟩ := (hev hop).two
    obtain ⟨z, w', h1, h2, h3⟩ := hm P w u v hu1 hu2
    simp only [cond_false] at h1
    refine yields_builtin ho (v := z) (w' := w') ?_ ⟨h2, h3⟩
    intro consts
    rw [map_args hv]
    simp [builtin, Builtin.min_, h1]
  · -- real
    refine ⟨_, h, ?_⟩
    intro a w Pr ρ cargs hp hH hop
    obtain ⟨v, hv, x, y, rfl, hx, hy⟩ := (hev hop).one
    refine yields_builtin ho (v := .float _ x) (w' := w) ?_ ⟨⟨x, rfl, hx⟩, Same.refl w⟩
    intro consts
    rw [map_args hv]
    simp [builtin, run_real' w]
  · -- imag
    refine ⟨_, h, ?_⟩
    intro a w Pr ρ cargs hp hH hop
    obtain ⟨v, hv, x, y, rfl, hx, hy⟩ := (hev hop).one
    refine yields_builtin ho (v := .float _ y) (w' := w) ?_ ⟨⟨y, rfl, hy⟩, Same.refl w⟩
    intro consts
    rw [map_args hv]
    simp [builtin, run_imag' w]
  · -- complex
    rename_i q1 a1 q2 b1
    cases hq : decide (q1 = q2) with
    | false => rw [hq] at h; cases h
    | true =>
      rw [hq] at h
      replace hq := of_decide_eq_true hq
      subst hq
      refine ⟨_, h, ?_⟩
      intro a w Pr ρ cargs hp hH hop
      obtain ⟨u, v, hv, ⟨x, rfl, hx⟩, ⟨y, rfl, hy⟩⟩ := (hev hop).two
      refine yields_builtin ho (v := .complex _ x y) (w' := w) ?_ ⟨⟨x, y, rfl, hx, hy⟩, Same.refl w⟩
      intro consts
      rw [map_args hv]
      simp [builtin, run_complex' w]
  · -- copy
    rcases hb with rfl | hb
    · cases h
    · exact absurd rfl hb.2
  · -- append
    rcases hb with rfl | hb
    · cases h
    · exact absurd rfl hb.1
  · cases h


/-! ### Calls of functions -/

section
variable {w : World} {Pr : Nat → Prop} {ρ cargs : List Value} {H : Hp}

theorem VwR.wide {v : Value} {vec : Vec} (hp : ∀ k, Pr k → k < w.heap.size) (h : VwR w Pr v vec) : VwR w (fun k => k < w.heap.size) v vec := by
  rcases h with h | ⟨a, cap, h1, h2, h3, h4⟩
  · exact .inl h
  · exact .inr ⟨a, cap, h1, h2, h3.imp id (hp _), h4⟩

theorem RowR.view {v : Value} {e : Nat} {vec : Vec} (h : RowR w Pr v e vec) : VwR w (fun k => k < w.heap.size) v vec := by
  obtain ⟨vs, hown, hvs, _⟩ := h
  rcases hown.2 with ⟨h1, h2⟩ | ⟨g, cap, cur, h1, _, h3, h4, _⟩
  · exact .inl ⟨h1, List.eq_nil_of_length_eq_zero h2⟩
  · refine .inr ⟨⟨g, 0, none⟩, cap, h1, h4, .inr (hown.lt g (by rw [h1]; rfl)).2, ?_⟩
    intro i c hi
    obtain ⟨u, hu, hc⟩ := hvs.get i c hi
    exact ⟨u, hown.cells (by rw [h1]; rfl) i u hu, hc⟩

theorem InR.wide (hp : ∀ k, Pr k → k < w.heap.size) {a : Addr} {kd : K} {xss : List (List kd.ty)} (h : InR w Pr a kd xss) : InR w (fun k => k < w.heap.size) a kd xss := by
  intro i xs hi
  obtain ⟨u, hu, hv⟩ := h i xs hi
  exact ⟨u, hu, hv.wide hp⟩

theorem closeP_ok (hH : HR w Pr ρ H) (hp : ∀ k, Pr k → k < w.heap.size) {p q : PT} {v : Value} (hv : PtR w Pr ρ p v) (h : closeP H p = some q) : PtR w (fun k => k < w.heap.size) [] q v := by
  unfold closeP at h
  split at h
  · rename_i vec hb
    cases hs : Nat.beq p.sz vec.k.sz with
    | false => rw [hs] at h; cases h
    | true =>
      rw [hs] at h
      cases h
      obtain ⟨a, h1, h2, h3⟩ := base_cells hH hp hv hb
      exact ⟨a, h3, h2, Nat.eq_of_beq_eq_true hs, h1⟩
  · split at h
    · rename_i j hb
      split at h
      · rename_i row hrow
        cases h
        unfold PtR at hv
        rw [hb] at hv
        obtain ⟨a, u, h1, h2, h3, h4⟩ := hv
        obtain ⟨v', hv', hr⟩ := hH.row j row hrow
        rw [h2] at hv'
        cases hv'
        refine ⟨a, hp _ h1, fun i xs hi => ?_, h4⟩
        cases i with
        | zero =>
          simp at hi
          subst hi
          exact ⟨u, by simpa [Addr.add] using h3, hr.view⟩
        | succ i => simp at hi
      · cases h
    · rename_i kd xss hb
      cases h
      unfold PtR at hv
      rw [hb] at hv
      obtain ⟨a, h1, h2, h3⟩ := hv
      exact ⟨a, hp _ h1, h2.wide hp, h3⟩
    · cases h

theorem closePs_ok (hH : HR w Pr ρ H) (hp : ∀ k, Pr k → k < w.heap.size) : ∀ {ps qs : List PT} {vs : List Value}, AllR (PtR w Pr ρ) ps vs → closePs H ps = some qs → AllR (PtR w (fun k => k < w.heap.size) []) qs vs
  | [], qs, [], _, h => by simp [closePs] at h; subst h; trivial
  | p :: ps, qs, v :: vs, hv, h => by
    unfold closePs at h
    split at h
    · rename_i q qs' hq hqs
      cases h
      exact ⟨closeP_ok hH hp hv.1 hq, closePs_ok hH hp hv.2 hqs⟩
    · cases h
  | [], _, _ :: _, hv, _ => hv.elim
  | _ :: _, _, [], hv, _ => hv.elim

/-- A slice of slices of the call's own, as one that is only read. -/
theorem LLR.view (hl : LLR w Pr ρ H) {r : Nat} {row : Row} {z : (k : K) × List (List k.ty)} {v : Value} (h : llAt H r = some row) (hz : row.v.two = some z) (hv : ρ[r]? = some v) : VvR w (fun k => k < w.heap.size) v z.1 z.2 := by
  obtain ⟨I, hI⟩ := hl
  obtain ⟨v', us, h1, hown, hin, _, _, _, hb⟩ := hI r row z h hz
  rw [hv] at h1
  cases h1
  rcases hown.2 with ⟨h1, h2⟩ | ⟨g, cap, cur, h1, _, h3, h4, _⟩
  · exact .inl ⟨h1, List.eq_nil_of_length_eq_zero h2⟩
  · refine .inr ⟨⟨g, 0, none⟩, cap, h1, h4, .inr (hown.lt g (by rw [h1]; rfl)).2, fun i xs hi => ?_⟩
    obtain ⟨u, hu, hvw⟩ := hin.get i xs hi
    exact ⟨u, hown.cells (by rw [h1]; rfl) i u hu, hvw.vw.wide fun k hk => (hb k (.inl hk)).1⟩

theorem close_ok (hH : HR w Pr ρ H) (hp : ∀ k, Pr k → k < w.heap.size) {x y : FV} {v : Value} (hv : FVR w Pr ρ cargs x v) (h : close H x = some y) : FVR w (fun k => k < w.heap.size) [] [] y v := by
  unfold close at h
  split at h
  · cases h; exact hv
  · cases h; exact hv
  · cases h; exact ⟨hv.1.wide hp, fun i hi => by cases hi⟩
  · rename_i r
    split at h
    · rename_i row hrow
      cases h
      obtain ⟨v', hv', hr⟩ := hH.row r row hrow
      have hv2 : ρ[r]? = some v := hv
      rw [hv2] at hv'
      cases hv'
      exact ⟨hr.view, fun i hi => by cases hi⟩
    · split at h
      · rename_i row hrow
        split at h
        · rename_i z hz
          cases h
          exact ⟨hH.ll.view hrow hz hv, fun i hi => by cases hi⟩
        · cases h
      · cases h
  · split at h
    · rename_i q hq
      cases h
      exact closeP_ok hH hp hv hq
    · cases h
  · split at h
    · rename_i qs hqs
      cases h
      obtain ⟨cs, h1, h2⟩ := hv
      exact ⟨cs, h1, closePs_ok hH hp h2 hqs⟩
    · cases h
  · cases h
    refine ⟨?_, fun i hi => by cases hi⟩
    rcases hv.1 with h | ⟨a, cap, h1, h2, h3, h4⟩
    · exact .inl h
    · exact .inr ⟨a, cap, h1, h2, h3.imp id (hp _), h4.wide hp⟩
  · cases h
    obtain ⟨a, h1, h2, h3⟩ := hv
    exact ⟨a, hp _ h1, h2.wide hp, h3⟩
  · cases h
    exact hv
  · cases h
  · cases h
  · cases h

theorem closeAll_ok (hH : HR w Pr ρ H) (hp : ∀ k, Pr k → k < w.heap.size) : ∀ {xs ys : List FV} {vs : List Value}, AllR (FVR w Pr ρ cargs) xs vs → closeAll H xs = some ys → AllR (FVR w (fun k => k < w.heap.size) [] []) ys vs
  | [], ys, [], _, h => by simp [closeAll] at h; subst h; trivial
  | x :: xs, ys, v :: vs, hv, h => by
    unfold closeAll at h
    split at h
    · rename_i y ys' hy hys
      cases h
      exact ⟨close_ok hH hp hv.1 hy, closeAll_ok hH hp hv.2 hys⟩
    · cases h
  | [], _, _ :: _, hv, _ => hv.elim
  | _ :: _, _, [], hv, _ => hv.elim

theorem takeBack_quiet {w w' w'' : World} {args : List FV} {cargs2 : List Value} : ∀ {rs : List RV} {vs : List Value} {xs : List FV} {H' : Hp}, quietRV rs = true → AllR (RVR w w' cargs2) rs vs → takeBack args H rs = some (xs, H') → H' = H ∧ AllR (FVR w'' Pr ρ cargs) xs vs
  | [], [], xs, H', _, _, h => by simp [takeBack] at h; obtain ⟨rfl, rfl⟩ := h; exact ⟨rfl, trivial⟩
  | .el e :: rs, v :: vs, xs, H', hq, hv, h => by
    unfold takeBack at h
    split at h
    · rename_i ys H2 h2
      cases h
      obtain ⟨h3, h4⟩ := takeBack_quiet (rs := rs) hq hv.2 h2
      exact ⟨h3, hv.1, h4⟩
    · cases h
  | .nil :: _, _, _, _, hq, _, _ => by cases hq
  | .fresh _ _ :: _, _, _, _, hq, _, _ => by cases hq
  | .arg _ :: _, _, _, _, hq, _, _ => by cases hq
  | [], _ :: _, _, _, _, hv, _ => hv.elim
  | .el _ :: _, [], _, _, _, hv, _ => hv.elim

theorem packed_ok {xs : List FV} {vs : List Value} (h : AllR (FVR w Pr ρ cargs) xs vs) : AVR w Pr ρ cargs (packed xs) (packV vs) := by
  match xs, vs, h with
  | [], [], h => exact ⟨[], rfl, trivial⟩
  | [x], [v], h => exact h.1
  | x :: y :: xs, v :: u :: vs, h => exact ⟨_, rfl, h⟩
end

theorem callFunc_run {f : Nat} (h : Real P f) (args : Array Value) (w : World) : (callFunc f args).run P w = .ok (.enter f args) w := by
  obtain ⟨fn, h1, h2, h3⟩ := h
  have h4 : fn.body.isNone = false := by cases hb : fn.body <;> simp [hb] at h2 ⊢
  simp only [callFunc, Sem.run_bind, run_program, Result.andThen_ok, h1, h3, h4, Bool.false_eq_true, if_false, Sem.run_pure]

/-- A function that is called: the call that is entered. -/
theorem yields_call {o : Oper} {a : Act} {w : World} {x : Operand} {args : Array Operand} {ts : Array TypeId} {f : Nat} {cs : List Value} {Φ : Value → World → Prop}
    (ho : o.op = .call { callee := .value x, args := args, argTypes := ts }) (hx : a.eval x = .func (.func f) #[] cs.toArray) (hr : Real P f)
    (h : Calls P f (args.toList.map a.eval ++ cs).toArray w fun e w' => ∃ v, e = .returned v ∧ Φ v w') : Yields P o a w Φ := by
  unfold Yields
  rw [execOp_call ho]
  have e : (#[] ++ args.map a.eval) ++ cs.toArray = (args.toList.map a.eval ++ cs).toArray := by
    apply Array.ext'
    simp
  simp only [resolve, hx, Deferred.ofValue, invoke, Sem.run_bind, Sem.run_pure, Result.andThen_ok, e, callFunc_run hr]
  exact h

theorem yields_callOK {o : Oper} {a : Act} {w : World} {x : Operand} {args : Array Operand} {ts : Array TypeId} {f : Nat} {cs : List Value} {zs : List FV} {rs : List RV}
    (ho : o.op = .call { callee := .value x, args := args, argTypes := ts }) (hx : a.eval x = .func (.func f) #[] cs.toArray) (h : CallOK P f zs rs)
    (hall : AllR (FVR w (fun k => k < w.heap.size) [] []) zs (args.toList.map a.eval ++ cs)) : Yields P o a w fun v w' => ∃ us, v = packV us ∧ Same w w' ∧ RVs w w' (args.toList.map a.eval ++ cs) rs us := by
  rcases h with ⟨hr, hc⟩ | ⟨fn, e, c, h1, h2, h3, h4, h5, rfl, h6⟩
  · exact yields_call ho hx hr ((hc w _ hall).mono fun e w' ⟨us, h1, h2, h3⟩ => ⟨_, h1, us, rfl, h2, h3⟩)
  · obtain ⟨v, w', h7, h8, h9⟩ := h6 w _ hall
    unfold Yields
    rw [execOp_call ho]
    have e1 : (#[] ++ args.map a.eval) ++ cs.toArray = (args.toList.map a.eval ++ cs).toArray := by
      apply Array.ext'
      simp
    simp only [resolve, hx, Deferred.ofValue, invoke, Sem.run_bind, Sem.run_pure, Result.andThen_ok, e1, run_callFunc_extern h1 h2 h3 h4 h5, h7]
    refine ⟨[v], rfl, h9, ⟨⟨h8, trivial⟩, fun i j r r' u u' g _ hi hj hf => ?_⟩⟩
    cases i with
    | zero => simp at hi; subst hi; cases hf
    | succ i => simp at hi

theorem operands_call {x : Operand} {args : Array Operand} {ts : Array TypeId} {y : Operand} (h : y = x ∨ y ∈ args.toList) : y ∈ (Op.call { callee := .value x, args := args, argTypes := ts }).operands := by
  rcases h with rfl | h
  · simp [Op.operands, Call.operands]
  · have : y ∈ args := by simpa using h
    simp [Op.operands, Call.operands, this]

/-- A call that is only asked for numbers. -/
theorem quiet_call (hT : TOK P T) {o : Oper} {s : St} {k : AV → Hp → R} {out : Out} {x : Operand} {args : Array Operand} {ts : Array TypeId}
    (ho : o.op = .call { callee := .value x, args := args, argTypes := ts })
    (h : opK T true (.call { callee := .value x, args := args, argTypes := ts }) s k = some out) : ∃ av, k av s.H = some out ∧ Quiet P o s av := by
  unfold opK at h
  dsimp only at h
  split at h
  · rename_i g caps xs hg hxs
    cases hm : T.mutf g with
    | true => rw [hm] at h; cases h
    | false =>
      rw [hm] at h
      simp only [cond_false] at h
      split at h
      · rename_i zs hzs
        obtain ⟨rs, hcok, hk⟩ := hT.S _ _ _ _ h
        cases hq : quietRV rs with
        | false => rw [hq] at hk; cases hk
        | true =>
          rw [hq] at hk
          simp only [Bool.not_true, Bool.and_false, cond_false] at hk
          split at hk
          · rename_i vs H' htb
            have hH' : H' = s.H := by
              -- the memory is as it was
              have key : ∀ (rs : List RV) (vs : List FV) (H' : Hp), quietRV rs = true → takeBack xs s.H rs = some (vs, H') → H' = s.H := by
                intro rs
                induction rs with
                | nil => intro vs H' _ h; simp [takeBack] at h; exact h.2.symm
                | cons r rs ih =>
                  intro vs H' hq h
                  cases r with
                  | el e =>
                    unfold takeBack at h
                    split at h
                    · rename_i ys H2 h2
                      cases h
                      exact ih _ _ hq h2
                    · cases h
                  | nil => cases hq
                  | fresh e v => cases hq
                  | arg i => cases hq
                  | new2 e v => cases hq
              exact key rs vs H' hq htb
            subst hH'
            refine ⟨_, hk, ?_⟩
            intro a w Pr ρ cargs hp hH hop
            have hfn := hop.fv x (by rw [ho]; exact operands_call (.inl rfl)) _ hg
            obtain ⟨cs, hcs, hcaps⟩ := hfn
            have hargs : AllR (FVR w Pr ρ cargs) xs (args.toList.map a.eval) := evAll_mem hxs fun y hy v hv => hop.fv y (by rw [ho]; exact operands_call (.inr hy)) v hv
            have hcaps' : AllR (FVR w Pr ρ cargs) (caps.map .pt) cs := by
              refine AllR.of_get (by simp [hcaps.length]) fun i y v hy hv => ?_
              rw [List.getElem?_map] at hy
              obtain ⟨p, hp1, hp2⟩ := Option.map_eq_some_iff.1 hy
              subst hp2
              obtain ⟨v', hv', hr⟩ := hcaps.get i p hp1
              rw [hv] at hv'
              cases hv'
              exact hr
            have hall := closeAll_ok hH hp (hargs.append hcaps') hzs
            refine (yields_callOK ho hcs hcok hall).mono ?_
            rintro e w' ⟨us, rfl, hsame, hrv⟩
            obtain ⟨_, h5⟩ := takeBack_quiet (H := s.H) (w'' := w) (Pr := Pr) (ρ := ρ) (cargs := cargs) hq hrv.all htb
            exact ⟨packed_ok h5, hsame⟩
          · split at hk
            · cases hq
            · cases hk
      · cases h
  · cases h

end
end Go.Sm

/- One operation: what the machine says, the model does. -/
namespace Go.Sm
open Go Go.RowKit

section
variable {P : Program} {T : TT}

theorem exec_eq {o : Oper} {op : Op} (h : o.op = op) (ρ : Operand → Value) : execOp ρ o = execOp ρ { o with op := op } := by
  rw [← h]

theorem cells_sub {w : World} {a : Addr} {vec : Vec} {l n : Nat} (h : CellsR w a vec.cells) : CellsR w (a.add (l * vec.k.sz)) (Vec.cells ⟨vec.k, (vec.xs.drop l).take n⟩) := by
  intro i c hi
  -- which element, which cell of it
  have hsz := vec.k.sz_pos
  have hdm : i = (i / vec.k.sz) * vec.k.sz + i % vec.k.sz := by rw [Nat.mul_comm]; exact (Nat.div_add_mod i vec.k.sz).symm
  have hmod : i % vec.k.sz < vec.k.sz := Nat.mod_lt _ hsz
  have hlt : i < (Vec.cells ⟨vec.k, (vec.xs.drop l).take n⟩).length := by
    rcases Nat.lt_or_ge i (Vec.cells ⟨vec.k, (vec.xs.drop l).take n⟩).length with h' | h'
    · exact h'
    · rw [List.getElem?_eq_none h'] at hi; cases hi
  rw [Vec.len_cells] at hlt
  dsimp only at hlt
  have hq : i / vec.k.sz < ((vec.xs.drop l).take n).length := (Nat.div_lt_iff_lt_mul hsz).2 hlt
  obtain ⟨x, hx⟩ : ∃ x, ((vec.xs.drop l).take n)[i / vec.k.sz]? = some x := ⟨_, List.getElem?_eq_getElem hq⟩
  have h1 := Vec.get_cells ⟨vec.k, (vec.xs.drop l).take n⟩ (i / vec.k.sz) (i % vec.k.sz) x hx hmod
  dsimp only at h1
  rw [← hdm] at h1
  have hx2 : vec.xs[l + i / vec.k.sz]? = some x := by
    rw [List.getElem?_take] at hx
    split at hx
    · rwa [List.getElem?_drop] at hx
    · cases hx
  have h2 := vec.get_cells (l + i / vec.k.sz) (i % vec.k.sz) x hx2 hmod
  have e : (l + i / vec.k.sz) * vec.k.sz + i % vec.k.sz = l * vec.k.sz + i := by rw [Nat.add_mul]; omega
  rw [e] at h2
  rw [hi] at h1
  obtain ⟨u, hu, hs⟩ := h (l * vec.k.sz + i) c (h2.trans h1.symm)
  exact ⟨u, by rw [add_add]; exact hu, hs⟩

theorem boundO_ok {s : St} {x : Option Operand} {d n : Int} (h : boundO s x d = some n) {Pr : Nat → Prop} {w : World} {ρ cargs : List Value} {a : Act}
    (hm : ∀ y, x = some y → ∀ v, evO s y = some v → FVR w Pr ρ cargs v (a.eval y)) : (x = none ∧ n = d) ∨ ∃ y q, x = some y ∧ a.eval y = .int q n := by
  cases x with
  | none => cases h; exact .inl ⟨rfl, rfl⟩
  | some y =>
    unfold boundO at h
    dsimp only at h
    split at h
    · rename_i q m hm2
      cases h
      exact .inr ⟨y, q, rfl, hm y rfl _ hm2⟩
    · cases h

/-- The slice of a slice that is only read. -/
theorem sliceAt_ok (hT : TOK P T) {w : World} {Pr : Nat → Prop} {t e : Nat} {kd : K} {v : Value} {vec : Vec} {lo hi : Option Value} {l h : Int} (ht : T.sl t = some e) (he : T.ek e = some kd) (hk : kd = vec.k)
    (hv : VwR w Pr v vec) (hlo : (lo = none ∧ l = 0) ∨ ∃ q, lo = some (.int q l)) (hhi : (hi = none ∧ h = (vec.xs.length : Int)) ∨ ∃ q, hi = some (.int q h))
    (h0 : 0 ≤ l) (h1 : l ≤ h) (h2 : h ≤ (vec.xs.length : Int)) :
    ∃ u, (Instr.sliceAt t v lo hi none).run P w = .ok u w ∧ VwR w Pr u ⟨vec.k, (vec.xs.drop l.toNat).take (h.toNat - l.toNat)⟩ := by
  obtain ⟨i, z, d, hinfo, hsz, _⟩ := hT.ek e kd he
  subst hk
  have hu := hT.sl t e ht
  have key : ∀ (a : Option Addr) (cap : Nat), vec.xs.length ≤ cap → v = .slice a vec.xs.length cap →
      (Instr.sliceAt t v lo hi none).run P w = .ok (.slice (if cap = l.toNat then a else a.map (·.add (l.toNat * vec.k.sz))) (h.toNat - l.toNat) (cap - l.toNat)) w := by
    rintro a cap hcap rfl
    have hbh : ∀ q, 0 ≤ h ∧ h ≤ (cap : Int) ∧ q = q := fun _ => ⟨by omega, by omega, rfl⟩
    have h3 : 0 ≤ h := by omega
    have h4 : h ≤ (cap : Int) := by omega
    have h5 : l ≤ max h 0 := by omega
    have h6 : l ≤ ((vec.xs.length : Nat) : Int) := by omega
    rcases hlo with ⟨rfl, rfl⟩ | ⟨q1, rfl⟩ <;> rcases hhi with ⟨rfl, rfl⟩ | ⟨q2, rfl⟩ <;>
      simp [Instr.sliceAt, run_underlying hu, Instr.slice, Instr.sliceBounds, Instr.sliceBound, asIntOf, sizeOf, typeInfo, hinfo, hsz, h0, h3, h4, h5, h6]
  rcases hv with ⟨rfl, hx⟩ | ⟨a, cap, rfl, hcap, hpr, hcells⟩
  · rw [hx] at h2
    simp at h2
    have hl : l = 0 := by omega
    have hh : h = 0 := by omega
    subst hl hh
    refine ⟨.slice none 0 0, ?_, .inl ⟨rfl, by simp⟩⟩
    have := key none 0 (by rw [hx]; simp) (by rw [hx]; rfl)
    simpa using this
  · refine ⟨_, key (some a) cap hcap rfl, .inr ⟨if cap = l.toNat then a else a.add (l.toNat * vec.k.sz), cap - l.toNat, ?_, ?_, ?_, ?_⟩⟩
    · split
      · simp; omega
      · simp; omega
    · simp; omega
    · rcases hpr with hpr | hpr
      · exact .inl (by simp [hpr])
      · refine .inr ?_
        split
        · exact hpr
        · rw [add_block]; exact hpr
    · split
      · rename_i hc
        -- nothing is left
        have hz : h.toNat - l.toNat = 0 := by omega
        rw [hz]
        intro i c hi
        simp [Vec.cells] at hi
      · exact cells_sub hcells

theorem Opd.av {w : World} {Pr : Nat → Prop} {ρ cargs : List Value} {s : St} {a : Act} {op : Op} (ho : Opd Pr w ρ cargs s a op) {x : Operand} (hx : x ∈ op.operands) {v : AV} (h : evA s x = some v) : AVR w Pr ρ cargs v (a.eval x) := by
  unfold evA at h
  split at h
  · rename_i t
    split at h
    · rename_i u hu
      cases h
      exact ho.fv (.tmp t) hx u (by unfold evO; dsimp only; rw [hu])
    · rename_i xs hxs
      cases h
      exact ho.tup t hx xs hxs
    · cases h
  · split at h
    · rename_i u hu
      cases h
      exact ho.fv _ hx u hu
    · cases h

theorem opK_quiet (hT : TOK P T) {o : Oper} {s : St} {k : AV → Hp → R} {out : Out} (h : opK T true o.op s k = some out) : ∃ av, k av s.H = some out ∧ Quiet P o s av := by
  cases hop : o.op with
  | move x =>
    rw [hop] at h
    unfold opK at h
    dsimp only at h
    split at h
    · rename_i v hv
      refine ⟨_, h, ?_⟩
      intro a w Pr ρ cargs hp hH ho
      unfold Yields
      rw [exec_eq hop]
      exact ⟨ho.av (by rw [hop]; simp [Op.operands]) hv, Same.refl w⟩
    · cases h
  | assign x =>
    rw [hop] at h
    unfold opK at h
    dsimp only at h
    split at h
    · rename_i v hv
      refine ⟨_, h, ?_⟩
      intro a w Pr ρ cargs hp hH ho
      unfold Yields
      rw [exec_eq hop]
      exact ⟨ho.fv x (by rw [hop]; simp [Op.operands]) v hv, Same.refl w⟩
    · cases h
  | pick c x y =>
    rw [hop] at h
    unfold opK at h
    dsimp only at h
    split at h
    · rename_i t ht
      cases t with
      | true =>
        simp only [cond_true] at h
        split at h
        · rename_i v hv
          refine ⟨_, h, ?_⟩
          intro a w Pr ρ cargs hp hH ho
          have hc : a.eval c = .bool true := ho.fv c (by rw [hop]; simp [Op.operands]) _ ht
          refine yields_value (x := (do pure (if ← asBool (a.eval c) then a.eval x else a.eval y))) (w' := w) (v := a.eval x) (by rw [exec_eq hop]; simp [execOp]) (by simp [hc, asBool]) ?_
          exact ⟨ho.fv x (by rw [hop]; simp [Op.operands]) v hv, Same.refl w⟩
        · cases h
      | false =>
        simp only [cond_false] at h
        split at h
        · rename_i v hv
          refine ⟨_, h, ?_⟩
          intro a w Pr ρ cargs hp hH ho
          have hc : a.eval c = .bool false := ho.fv c (by rw [hop]; simp [Op.operands]) _ ht
          refine yields_value (x := (do pure (if ← asBool (a.eval c) then a.eval x else a.eval y))) (w' := w) (v := a.eval y) (by rw [exec_eq hop]; simp [execOp]) (by simp [hc, asBool]) ?_
          exact ⟨ho.fv y (by rw [hop]; simp [Op.operands]) v hv, Same.refl w⟩
        · cases h
    · cases h
  | binOp b t x y t' =>
    rw [hop] at h
    unfold opK at h
    dsimp only at h
    split at h
    · rename_i c d hc hd
      obtain ⟨r, hr, hb⟩ := binK_ok h
      refine ⟨_, hr, quiet_fv ?_⟩
      intro a w Pr ρ cargs hp hH ho
      refine ⟨_, by rw [exec_eq hop]; rfl, hb P w t x y _ _ ?_ (ho.fv x (by rw [hop]; simp [Op.operands]) _ hc) (ho.fv y (by rw [hop]; simp [Op.operands]) _ hd)⟩
      intro hbool
      cases hn : T.nk t with
      | none => rw [hn] at hbool; cases hbool
      | some n =>
        rw [hn] at hbool
        cases n <;> first | (cases hbool; done) | exact hT.nk t _ hn
    · rename_i o' vec hc hd
      split at h
      · rename_i e he
        cases hb : Nat.ble 1 vec.xs.length with
        | false => rw [hb] at h; cases h
        | true =>
          rw [hb] at h
          have hl := Nat.le_of_ble_eq_true hb
          refine ⟨_, h, quiet_fv ?_⟩
          intro a w Pr ρ cargs hp hH ho
          have h1 := ho.fv x (by rw [hop]; simp [Op.operands]) _ hc
          have h2 : a.eval y = .slice none 0 0 := ho.fv y (by rw [hop]; simp [Op.operands]) _ hd
          have hu := hT.sl t e he
          refine ⟨_, by rw [exec_eq hop]; rfl, gives_ok (v := .bool false) ?_ rfl⟩
          rcases h1.1 with ⟨_, h4⟩ | ⟨ad, cap, h3, _⟩
          · rw [h4] at hl; simp at hl
          · rw [h2, h3, eqGuard_at_slice]
            simp only [Sem.run_bind, Sem.run_pure, Result.andThen_ok]
            rw [Go.Lib.run_eql_slice_nil w t e (some ad) _ _ 0 0 hu]
            rfl
      · cases h
    · rename_i o' kd hc hd
      split at h
      · rename_i e he
        refine ⟨_, h, quiet_fv ?_⟩
        intro a w Pr ρ cargs hp hH ho
        obtain ⟨ad, cap, h3⟩ := ho.fv x (by rw [hop]; simp [Op.operands]) _ hc
        have h2 : a.eval y = .slice none 0 0 := ho.fv y (by rw [hop]; simp [Op.operands]) _ hd
        have hu := hT.sl t e he
        refine ⟨_, by rw [exec_eq hop]; rfl, gives_ok (v := .bool false) ?_ rfl⟩
        rw [h2, h3, eqGuard_at_slice]
        simp only [Sem.run_bind, Sem.run_pure, Result.andThen_ok]
        rw [Go.Lib.run_eql_slice_nil w t e (some ad) _ _ 0 0 hu]
        rfl
      · cases h
    · rename_i o' hc hd
      split at h
      · rename_i e he
        refine ⟨_, h, quiet_fv ?_⟩
        intro a w Pr ρ cargs hp hH ho
        have h3 : a.eval x = .slice none 0 0 := ho.fv x (by rw [hop]; simp [Op.operands]) _ hc
        have h2 : a.eval y = .slice none 0 0 := ho.fv y (by rw [hop]; simp [Op.operands]) _ hd
        have hu := hT.sl t e he
        refine ⟨_, by rw [exec_eq hop]; rfl, gives_ok (v := .bool true) ?_ rfl⟩
        rw [h2, h3, eqGuard_at_slice]
        simp only [Sem.run_bind, Sem.run_pure, Result.andThen_ok]
        rw [Go.Lib.run_eql_slice_nil w t e none _ _ 0 0 hu]
        rfl
      · cases h
    · cases h
  | unOp b t x =>
    rw [hop] at h
    unfold opK at h
    dsimp only at h
    split at h
    · rename_i c hc
      obtain ⟨r, hr, hb⟩ := unK_ok h
      refine ⟨_, hr, quiet_fv ?_⟩
      intro a w Pr ρ cargs hp hH ho
      exact ⟨_, by rw [exec_eq hop]; rfl, hb P w _ (ho.fv x (by rw [hop]; simp [Op.operands]) _ hc)⟩
    · cases h
  | convert src d x =>
    rw [hop] at h
    unfold opK at h
    dsimp only at h
    split at h
    · rename_i n0 n c hn0 hn hc
      obtain ⟨r, hr, hb⟩ := convK_ok h
      refine ⟨_, hr, quiet_fv ?_⟩
      intro a w Pr ρ cargs hp hH ho
      exact ⟨_, by rw [exec_eq hop]; rfl, hb P w src d _ _ (hT.nk _ _ hn0) (hT.nk _ _ hn) (ho.fv x (by rw [hop]; simp [Op.operands]) _ hc)⟩
    · cases h
  | nilCheck x =>
    rw [hop] at h
    unfold opK at h
    dsimp only at h
    split at h
    · rename_i p hc
      refine ⟨_, h, ?_⟩
      intro a w Pr ρ cargs hp hH ho
      have hv := ho.fv x (by rw [hop]; simp [Op.operands]) _ hc
      have hpt : ∃ b, a.eval x = .pointer (some b) := by
        obtain ⟨b, hb, _⟩ := PtR.add (o := 0) (show PtR w Pr ρ p (a.eval x) from hv)
        exact ⟨b, hb⟩
      obtain ⟨b, hb⟩ := hpt
      unfold Yields
      rw [exec_eq hop]
      simp only [execOp, hb, Sem.run_pure]
      exact ⟨by rw [← hb]; exact hv, Same.refl w⟩
    · rename_i f caps hc
      refine ⟨_, h, ?_⟩
      intro a w Pr ρ cargs hp hH ho
      have hv := ho.fv x (by rw [hop]; simp [Op.operands]) _ hc
      obtain ⟨cs, hb, hcs⟩ := hv
      unfold Yields
      rw [exec_eq hop]
      simp only [execOp, hb, Sem.run_pure]
      exact ⟨⟨cs, rfl, hcs⟩, Same.refl w⟩
    · cases h
  | load t x =>
    rw [hop] at h
    unfold opK at h
    dsimp only at h
    split at h
    · rename_i p hc
      obtain ⟨r, hr, hl⟩ := loadK_ok hT h
      refine ⟨_, hr, quiet_fv ?_⟩
      intro a w Pr ρ cargs hp hH ho
      obtain ⟨u, hu, hx⟩ := hl w Pr ρ cargs _ hp hH (ho.fv x (by rw [hop]; simp [Op.operands]) _ hc)
      exact ⟨_, by rw [exec_eq hop]; rfl, gives_ok hu hx⟩
    · rename_i kd xss i hc
      split at h
      · rename_i e he
        split at h
        · rename_i xs hi
          refine ⟨_, h, quiet_fv ?_⟩
          intro a w Pr ρ cargs hp hH ho
          obtain ⟨u, hu, hx⟩ := loadIn_ok hT he (show ∃ b, Pr b.block ∧ InR w Pr b kd xss ∧ a.eval x = .pointer (some (b.add i)) from ho.fv x (by rw [hop]; simp [Op.operands]) _ hc) hi
          exact ⟨_, by rw [exec_eq hop]; rfl, gives_ok hu ⟨hx, fun i hi => by cases hi⟩⟩
        · cases h
      · cases h
    · rename_i r e' π i hc
      split at h
      · rename_i e he
        split at h
        · rename_i j hi
          refine ⟨_, h, quiet_fv ?_⟩
          intro a w Pr ρ cargs hp hH ho
          obtain ⟨u, hu, hx⟩ := loadM_ok hT he (ho.fv x (by rw [hop]; simp [Op.operands]) _ hc) hi
          exact ⟨_, by rw [exec_eq hop]; rfl, gives_ok hu hx⟩
        · cases h
      · cases h
    · cases h
    · cases h
  | fieldAddr t x f =>
    rw [hop] at h
    unfold opK at h
    dsimp only at h
    split at h
    · rename_i p off hc hoff
      refine ⟨_, h, quiet_fv ?_⟩
      intro a w Pr ρ cargs hp hH ho
      obtain ⟨b, hb, hb2⟩ := PtR.add (o := off) (show PtR w Pr ρ p (a.eval x) from ho.fv x (by rw [hop]; simp [Op.operands]) _ hc)
      exact ⟨_, by rw [exec_eq hop]; rfl, gives_ok (by rw [hb]; exact fieldAddr_ok hT hoff b) hb2⟩
    · cases h
  | indexAddr t x i =>
    rw [hop] at h
    unfold opK at h
    dsimp only at h
    split at h
    · rename_i e o kd xss n he hv hn
      split at h
      · rename_i e2 q m he2
        cases hc : decide (0 ≤ m ∧ m < (xss.length : Int)) with
        | false => rw [hc] at h; cases h
        | true =>
          rw [hc] at h
          rw [decide_eq_true_eq] at hc
          refine ⟨_, h, quiet_fv ?_⟩
          intro a w Pr ρ cargs hp hH ho
          have hi : a.eval i = .int q m := ho.fv i (by rw [hop]; simp [Op.operands]) _ hn
          obtain ⟨u, hu, hx⟩ := indexIn_ok hT (q := q) he he2 (ho.fv x (by rw [hop]; simp [Op.operands]) _ hv).1 hc.1 hc.2
          exact ⟨_, by rw [exec_eq hop]; rfl, gives_ok (by rw [hi]; exact hu) hx⟩
      · cases h
    · rename_i e r e' π n he hv hn
      split at h
      · rename_i e2 q m he2
        cases hc : decide (0 ≤ m ∧ m < (π.length : Int)) with
        | false => rw [hc] at h; cases h
        | true =>
          rw [hc] at h
          rw [decide_eq_true_eq] at hc
          refine ⟨_, h, quiet_fv ?_⟩
          intro a w Pr ρ cargs hp hH ho
          have hi : a.eval i = .int q m := ho.fv i (by rw [hop]; simp [Op.operands]) _ hn
          obtain ⟨u, hu, hx⟩ := indexM_ok hT (q := q) he he2 (ho.fv x (by rw [hop]; simp [Op.operands]) _ hv) hc.1 hc.2
          exact ⟨_, by rw [exec_eq hop]; rfl, gives_ok (by rw [hi]; exact hu) hx⟩
      · cases h
    · rename_i e r n he hv hn
      split at h
      · rename_i row hrow
        split at h
        · rename_i e2 q m he2
          cases hc : decide (0 ≤ m ∧ m < (row.v.xs.length : Int)) with
          | false => rw [hc] at h; cases h
          | true =>
            rw [hc] at h
            rw [decide_eq_true_eq] at hc
            refine ⟨_, h, quiet_fv ?_⟩
            intro a w Pr ρ cargs hp hH ho
            have hi : a.eval i = .int q m := ho.fv i (by rw [hop]; simp [Op.operands]) _ hn
            obtain ⟨u, hu, hx⟩ := indexOwn_ok hT hH (q := q) he he2 hrow (show ρ[r]? = some (a.eval x) from ho.fv x (by rw [hop]; simp [Op.operands]) _ hv) hc.1 hc.2
            exact ⟨_, by rw [exec_eq hop]; rfl, gives_ok (by rw [hi]; exact hu) hx⟩
        · cases h
      · split at h
        · rename_i kd b vec q m hkd hsl
          cases hc : (decide (0 ≤ m ∧ m < (vec.xs.length : Int)) && decide (kd = vec.k)) with
          | false => rw [hc] at h; cases h
          | true =>
            rw [hc] at h
            rw [Bool.and_eq_true, decide_eq_true_eq, decide_eq_true_eq] at hc
            refine ⟨_, h, quiet_fv ?_⟩
            intro a w Pr ρ cargs hp hH ho
            have hi : a.eval i = .int q m := ho.fv i (by rw [hop]; simp [Op.operands]) _ hn
            obtain ⟨u, hu, hx⟩ := indexAddr_ok hT hH (q := q) he hkd hc.2 (ho.fv x (by rw [hop]; simp [Op.operands]) _ hv) hsl hc.1.1 hc.1.2
            exact ⟨_, by rw [exec_eq hop]; rfl, gives_ok (by rw [hi]; exact hu) hx⟩
        · cases h
    · rename_i e v n _ _ _ he hv hn
      split at h
      · rename_i kd b vec q m hkd hsl
        cases hc : (decide (0 ≤ m ∧ m < (vec.xs.length : Int)) && decide (kd = vec.k)) with
        | false => rw [hc] at h; cases h
        | true =>
          rw [hc] at h
          rw [Bool.and_eq_true, decide_eq_true_eq, decide_eq_true_eq] at hc
          refine ⟨_, h, quiet_fv ?_⟩
          intro a w Pr ρ cargs hp hH ho
          have hi : a.eval i = .int q m := ho.fv i (by rw [hop]; simp [Op.operands]) _ hn
          obtain ⟨u, hu, hx⟩ := indexAddr_ok hT hH (q := q) he hkd hc.2 (ho.fv x (by rw [hop]; simp [Op.operands]) _ hv) hsl hc.1.1 hc.1.2
          exact ⟨_, by rw [exec_eq hop]; rfl, gives_ok (by rw [hi]; exact hu) hx⟩
      · cases h
    · cases h
  | extract x i =>
    rw [hop] at h
    unfold opK at h
    dsimp only at h
    split at h
    · rename_i t
      split at h
      · rename_i xs hxs
        split at h
        · rename_i v hv
          refine ⟨_, h, quiet_fv ?_⟩
          intro a w Pr ρ cargs hp hH ho
          obtain ⟨vs, h1, h2⟩ := ho.tup t (by rw [hop]; simp [Op.operands]) xs hxs
          obtain ⟨u, hu, hr⟩ := h2.get i v hv
          exact ⟨_, by rw [exec_eq hop]; rfl, gives_ok (v := u) (by rw [h1]; simp [Instr.extract, hu]) hr⟩
        · cases h
      · cases h
    · cases h
  | field t x f =>
    rw [hop] at h
    unfold opK at h
    dsimp only at h
    split at h
    · rename_i cs off hc hoff
      split at h
      · rename_i c hcc
        refine ⟨_, h, quiet_fv ?_⟩
        intro a w Pr ρ cargs hp hH ho
        obtain ⟨vs, h1, h2⟩ := ho.fv x (by rw [hop]; simp [Op.operands]) _ hc
        obtain ⟨u, hu, hr⟩ := h2.get off c hcc
        obtain ⟨fs, fd, i, d, f1, f2, f3, f4, f5, f6, f7⟩ := hT.fo t f off hoff
        refine ⟨_, by rw [exec_eq hop]; rfl, gives_ok (v := u) ?_ hr⟩
        rw [h1]
        simp [Instr.field, run_underlying f1, f2, asAgg, part, isAgg_run f6 f7, f3, hu]
      · cases h
    · cases h
  | slice t x lo hi mx =>
    rw [hop] at h
    unfold opK at h
    cases mx with
    | some m => cases h
    | none =>
      dsimp only at h
      split at h
      · rename_i e og vec he hv
        split at h
        · rename_i kd l hh hkd hl hhi
          cases hc : (decide (0 ≤ l ∧ l ≤ hh ∧ hh ≤ (vec.xs.length : Int)) && decide (kd = vec.k)) with
          | false => rw [hc] at h; cases h
          | true =>
            rw [hc] at h
            rw [Bool.and_eq_true, decide_eq_true_eq, decide_eq_true_eq] at hc
            refine ⟨_, h, quiet_fv ?_⟩
            intro a w Pr ρ cargs hp hH ho
            have hx := ho.fv x (by rw [hop]; simp [Op.operands]) _ hv
            have hb1 := boundO_ok hl (a := a) (w := w) (Pr := Pr) (ρ := ρ) (cargs := cargs) fun y hy v hv => ho.fv y (by rw [hop]; simp [Op.operands, hy]) v hv
            have hb2 := boundO_ok hhi (a := a) (w := w) (Pr := Pr) (ρ := ρ) (cargs := cargs) fun y hy v hv => ho.fv y (by rw [hop]; simp [Op.operands, hy]) v hv
            have hb1' : (lo.map a.eval = none ∧ l = 0) ∨ ∃ q, lo.map a.eval = some (.int q l) := by
              rcases hb1 with ⟨rfl, h⟩ | ⟨y, q, rfl, h⟩
              · exact .inl ⟨rfl, h⟩
              · exact .inr ⟨q, by rw [Option.map_some, h]⟩
            have hb2' : (hi.map a.eval = none ∧ hh = (vec.xs.length : Int)) ∨ ∃ q, hi.map a.eval = some (.int q hh) := by
              rcases hb2 with ⟨rfl, h⟩ | ⟨y, q, rfl, h⟩
              · exact .inl ⟨rfl, h⟩
              · exact .inr ⟨q, by rw [Option.map_some, h]⟩
            obtain ⟨u, hu, hr⟩ := sliceAt_ok hT he hkd hc.2 hx.1 hb1' hb2' hc.1.1 hc.1.2.1 hc.1.2.2
            exact ⟨_, by rw [exec_eq hop]; rfl, gives_ok hu ⟨hr, fun i hi => by cases hi⟩⟩
        · cases h
      · cases h
  | makeFunc fn first captured =>
    rw [hop] at h
    unfold opK at h
    dsimp only at h
    split at h
    · rename_i f xs hf hxs
      split at h
      · rename_i ps hps
        refine ⟨_, h, quiet_fv ?_⟩
        intro a w Pr ρ cargs hp hH ho
        have hall := evAll_mem hxs (Pr := Pr) (w := w) (ρ := ρ) (cargs := cargs) (a := a) fun y hy v hv => ho.fv y (by rw [hop]; simp only [Op.operands]; simp; exact .inr (by simpa using hy)) v hv
        have hpts : AllR (PtR w Pr ρ) ps (captured.toList.map a.eval) := by
          have key : ∀ (xs : List FV) (ps : List PT) (vs : List Value), pts? xs = some ps → AllR (FVR w Pr ρ cargs) xs vs → AllR (PtR w Pr ρ) ps vs := by
            intro xs
            induction xs with
            | nil => intro ps vs h1 h2; simp [pts?] at h1; subst h1; cases vs with
              | nil => trivial
              | cons v vs => exact h2.elim
            | cons x xs ih =>
              intro ps vs h1 h2
              cases vs with
              | nil => exact h2.elim
              | cons v vs =>
                cases x with
                | pt p =>
                  unfold pts? at h1
                  split at h1
                  · rename_i ps' hps'
                    cases h1
                    exact ⟨h2.1, ih _ _ hps' h2.2⟩
                  · cases h1
                | el e => cases h1
                | nil => cases h1
                | vw o v => cases h1
                | own r => cases h1
                | fn f c => cases h1
                | vv o kd xss => cases h1
                | pv kd xss i => cases h1
                | ne k => cases h1
                | pl r i => cases h1
                | mv r e π => cases h1
                | pm r e π i => cases h1
          exact key xs ps _ hps hall
        refine ⟨Instr.makeFunc (.func f) (first.map a.eval) (captured.map a.eval), by rw [exec_eq hop]; rfl, gives_ok (v := .func (.func f) #[] (captured.toList.map a.eval).toArray) ?_ ⟨_, rfl, hpts⟩⟩
        have h1 : first.map a.eval = #[] := by
          apply Array.ext'
          simp [hf]
        have h2 : captured.map a.eval = (captured.toList.map a.eval).toArray := by apply Array.ext'; simp
        rw [h1, h2]
        rfl
      · cases h
    · cases h
  | build t parts =>
    rw [hop] at h
    unfold opK at h
    dsimp only at h
    split at h
    · rename_i kd ps hkd hps
      split at h
      · rename_i ss hss
        split at h
        · rename_i cs hcs
          cases hagg : kd.agg with
          | false => rw [hagg] at h; cases h
          | true =>
            rw [hagg] at h
            refine ⟨_, h, quiet_fv ?_⟩
            intro a w Pr ρ cargs hp hH ho
            obtain ⟨fs, places, b1, b2, b3⟩ := hT.bd t kd hkd hagg
            obtain ⟨i, z, d, hi, hsz, hz, hze, _⟩ := hT.ek t kd hkd
            obtain ⟨zs, hz1, hz2⟩ := ElR.cells hze
            have hparts := evParts_mem hps (Pr := Pr) (w := w) (ρ := ρ) (cargs := cargs) (a := a) fun p hpm v hv => ho.fv p.2 (by rw [hop]; simp only [Op.operands]; simp; exact ⟨p.1, by simpa using hpm⟩) v hv
            have hsc : AllR (fun (x : Nat × SC) (y : Nat × Value) => x.1 = y.1 ∧ SCR x.2 y.2) ss (parts.toList.map fun p => (p.1, a.eval p.2)) := by
              have key : ∀ (ps : List (Nat × FV)) (ss : List (Nat × SC)) (vs : List (Nat × Value)), scParts ps = some ss → AllR (fun (x : Nat × FV) (y : Nat × Value) => x.1 = y.1 ∧ FVR w Pr ρ cargs x.2 y.2) ps vs →
                  AllR (fun (x : Nat × SC) (y : Nat × Value) => x.1 = y.1 ∧ SCR x.2 y.2) ss vs := by
                intro ps
                induction ps with
                | nil => intro ss vs h1 h2; simp [scParts] at h1; subst h1; cases vs with
                  | nil => trivial
                  | cons v vs => exact h2.elim
                | cons p ps ih =>
                  intro ss vs h1 h2
                  cases vs with
                  | nil => exact h2.elim
                  | cons v vs =>
                    obtain ⟨j, x⟩ := p
                    cases x with
                    | el e =>
                      cases e with
                      | sc c =>
                        unfold scParts at h1
                        split at h1
                        · rename_i ss' hss'
                          cases h1
                          exact ⟨h2.1, ih _ _ hss' h2.2⟩
                        · cases h1
                      | ag cs => cases h1
                    | nil => cases h1
                    | vw o v => cases h1
                    | own r => cases h1
                    | pt p => cases h1
                    | fn f c => cases h1
                    | vv o kd xss => cases h1
                    | pv kd xss i => cases h1
                    | ne k => cases h1
                    | pl r i => cases h1
                    | mv r e π => cases h1
                    | pm r e π i => cases h1
              exact key ps ss _ hss hparts
            obtain ⟨us', hf1, hf2⟩ := fill_ok (T := T) (t := t) (sz := kd.sz) b3 ss _ _ z.cells cs hcs hsc (by rw [hz1]; exact hz2) (by rw [hz1, List.size_toArray, ← hz2.length, K.len_f])
            refine ⟨Instr.build t (parts.map fun p => (p.1, a.eval p.2)), by rw [exec_eq hop]; rfl, gives_ok (v := .agg us') ?_ ⟨us'.toList, by simp, hf2⟩⟩
            have hpm : (parts.map fun p => (p.1, a.eval p.2)).toList = parts.toList.map fun p => (p.1, a.eval p.2) := by simp
            simp only [Instr.build, Sem.run_bind, zeroValue, typeInfo, run_program, Result.andThen_ok, hi, Sem.run_pure, hz, run_underlying b1, b2, hpm, hf1]
        · cases h
      · cases h
    · cases h
  | call c =>
    obtain ⟨callee, args, ts⟩ := c
    rw [hop] at h
    cases callee with
    | value x => exact quiet_call hT hop h
    | builtin b => exact quiet_builtin hT hop true (.inl rfl) h
    | invoke r m => unfold opK at h; cases h
  | store t a x => rw [hop] at h; unfold opK at h; cases h
  | box t x => rw [hop] at h; unfold opK at h; cases h
  | alloc t => rw [hop] at h; unfold opK at h; cases h
  | buildSlice t n ps => rw [hop] at h; unfold opK at h; cases h
  | makeSlice t l c => rw [hop] at h; unfold opK at h; cases h
  | _ => rw [hop] at h; unfold opK at h; cases h

end
end Go.Sm

/- The operations that make memory, or write into the call's own: what the machine says, the model does. -/
namespace Go.Sm
open Go Go.RowKit

section
variable {P : Program} {T : TT}

/-- What is asked of an operation: its value, and the memory behind it. -/
def Does (P : Program) (o : Oper) (s : St) (av : AV) (H' : Hp) : Prop :=
  ∀ (a : Act) (w : World) (Pr : Nat → Prop) (ρ cargs : List Value), (∀ k, Pr k → k < w.heap.size) → HR w Pr ρ s.H → Opd Pr w ρ cargs s a o.op →
    Yields P o a w fun v w' => ∃ ρ', (∀ (r : Nat) (u : Value), ρ[r]? = some u → ρ'[r]? = some u) ∧ AVR w' Pr ρ' cargs av v ∧ HR w' Pr ρ' H' ∧ Keep Pr w w'

theorem Quiet.does {o : Oper} {s : St} {av : AV} (h : Quiet P o s av) : Does P o s av s.H := by
  intro a w Pr ρ cargs hp hH ho
  exact (h a w Pr ρ cargs hp hH ho).mono fun v w' ⟨h1, h2⟩ => ⟨ρ, fun _ _ h => h, h1.same h2 hp, hH.keep h2.block, Keep.of_below h2 hp⟩

theorem cast_ok {v : Vec} {q : K} {ys : List q.ty} (h : v.cast q = some ys) : v = ⟨q, ys⟩ := by
  obtain ⟨k, xs⟩ := v
  unfold Vec.cast at h
  dsimp only at h
  split at h
  · rename_i e
    subst e
    cases h
    rfl
  · cases h

theorem getElem?_push_old {ρ : List Value} {v u : Value} {r : Nat} (h : ρ[r]? = some u) : (ρ ++ [v])[r]? = some u := by
  have hl : r < ρ.length := by
    rcases Nat.lt_or_ge r ρ.length with h' | h'
    · exact h'
    · rw [List.getElem?_eq_none h'] at h; cases h
  rw [List.getElem?_append_left hl]
  exact h

theorem at_push {H : Hp} {x : Option Row} {r : Nat} {row : Row} (hr : (H ++ [x])[r]? = some (some row)) : H[r]? = some (some row) ∨ (r = H.length ∧ x = some row) := by
  rw [List.getElem?_append] at hr
  split at hr
  · exact .inl hr
  · rename_i hl
    have : r = H.length := by
      by_cases e : r - H.length = 0
      · omega
      · obtain ⟨q, hq⟩ : ∃ q, r - H.length = q + 1 := ⟨r - H.length - 1, by omega⟩
        rw [hq] at hr
        simp at hr
    subst this
    simp at hr
    exact .inr ⟨rfl, hr⟩

theorem at_set {H : Hp} {r r' : Nat} {x : Option Row} {row : Row} (hr : (H.set r x)[r']? = some (some row)) : (r ≠ r' ∧ H[r']? = some (some row)) ∨ (r = r' ∧ x = some row) := by
  rw [List.getElem?_set] at hr
  by_cases e : r = r'
  · rw [if_pos e] at hr
    split at hr
    · simp only [Option.some.injEq] at hr
      exact .inr ⟨e, hr⟩
    · cases hr
  · rw [if_neg e] at hr
    exact .inl ⟨e, hr⟩

theorem rowAt_push {H : Hp} {x : Option Row} {r : Nat} {row : Row} (h : rowAt (H ++ [x]) r = some row) : rowAt H r = some row ∨ (r = H.length ∧ x = some row) := by
  obtain ⟨hk, hr⟩ := rowAt_no h
  rcases at_push hr with h1 | h1
  · exact .inl (rowAt_of h1 hk)
  · exact .inr h1

theorem llAt_push {H : Hp} {x : Option Row} {r : Nat} {row : Row} (h : llAt (H ++ [x]) r = some row) : llAt H r = some row ∨ (r = H.length ∧ x = some row ∧ row.v.k.is2 = true) := by
  obtain ⟨hk, hr⟩ := llAt_is2 h
  rcases at_push hr with h1 | h1
  · exact .inl (llAt_of h1 hk)
  · exact .inr ⟨h1.1, h1.2, hk⟩

theorem alAt_push {H : Hp} {x : Option Row} {r : Nat} {p : Nat × Nat} (h : alAt (H ++ [x]) r = some p) : alAt H r = some p ∨ (r = H.length ∧ ∃ e, x = some ⟨e, ⟨.al, [p]⟩⟩) := by
  obtain ⟨e, hr⟩ := alAt_at h
  rcases at_push hr with h1 | h1
  · exact .inl (alAt_of h1)
  · exact .inr ⟨h1.1, e, h1.2⟩

theorem alAt_lt {H : Hp} {r : Nat} {p : Nat × Nat} (h : alAt H r = some p) : r < H.length := by
  obtain ⟨e, hr⟩ := alAt_at h
  rcases Nat.lt_or_ge r H.length with h' | h'
  · exact h'
  · rw [List.getElem?_eq_none h'] at hr; cases hr

theorem llAt_lt {H : Hp} {r : Nat} {row : Row} (h : llAt H r = some row) : r < H.length := by
  obtain ⟨_, hr⟩ := llAt_is2 h
  rcases Nat.lt_or_ge r H.length with h' | h'
  · exact h'
  · rw [List.getElem?_eq_none h'] at hr; cases hr

theorem rowAt_lt {H : Hp} {r : Nat} {row : Row} (h : rowAt H r = some row) : r < H.length := by
  obtain ⟨_, hr⟩ := rowAt_is2 h
  rcases Nat.lt_or_ge r H.length with h' | h'
  · exact h'
  · rw [List.getElem?_eq_none h'] at hr; cases hr

/-- What is said of slices of slices, behind a new row that is none. -/
theorem LLR.push {w w' : World} {Pr : Nat → Prop} {ρ : List Value} {H : Hp} {v : Value} {e : Nat} {vec : Vec} (h : LLR w Pr ρ H) (hlen : ρ.length = H.length) (hsz : w.heap.size ≤ w'.heap.size) (hk : (vec.k.is2 || vec.k.isAl) = false)
    (hheap : ∀ g, g < w.heap.size → (∀ (r : Nat) (row : Row) (v : Value), rowAt H r = some row → ρ[r]? = some v → v.ownBlock ≠ some g) → w'.heap[g]? = w.heap[g]?)
    (hn : ∀ g, v.ownBlock = some g → w.heap.size ≤ g ∨ ∃ r0 row0 v0, rowAt H r0 = some row0 ∧ ρ[r0]? = some v0 ∧ v0.ownBlock = some g) : LLR w' Pr (ρ ++ [v]) (H ++ [some ⟨e, vec⟩]) := by
  refine h.step hsz hheap (fun r row hr => ?_) (fun r p hr => ?_) fun r row u g h1 h2 h3 => ?_
  · rcases llAt_push hr with h1 | ⟨_, h1, h2⟩
    · exact ⟨h1, List.getElem?_append_left (by rw [hlen]; exact llAt_lt h1)⟩
    · cases h1
      rw [h2] at hk
      cases hk
  · rcases alAt_push hr with h1 | ⟨_, e', h1⟩
    · exact ⟨h1, List.getElem?_append_left (by rw [hlen]; exact alAt_lt h1)⟩
    · cases h1
      cases hk
  · rcases rowAt_push h1 with h4 | ⟨rfl, h4⟩
    · rw [List.getElem?_append_left (by rw [hlen]; exact rowAt_lt h4)] at h2
      exact .inr ⟨r, row, u, h4, h2, h3⟩
    · rw [← hlen] at h2
      simp at h2
      subst h2
      exact hn g h3

/-- A new row. -/
theorem HR.push {w w' : World} {Pr : Nat → Prop} {ρ : List Value} {H : Hp} {v : Value} {e : Nat} {vec : Vec} (hH : HR w Pr ρ H) (hs : ∀ k, k < w.heap.size → w'.heap[k]? = w.heap[k]?)
    (hr : RowR w' Pr v e vec) (hk : (vec.k.is2 || vec.k.isAl) = false) (hn : ∀ g, v.ownBlock = some g → w.heap.size ≤ g) : HR w' Pr (ρ ++ [v]) (H ++ [some ⟨e, vec⟩]) := by
  have hH' := hH.keep hs
  refine ⟨by simp [hH.len], fun r row hrow => ?_, fun r r' row row' u u' g hne h1 h2 h3 h4 h5 h6 => ?_, hH.ll.push hH.len (size_same hs) hk (fun g hg _ => hs g hg) fun g hg => .inl (hn g hg)⟩
  · rcases rowAt_push hrow with h | ⟨rfl, h⟩
    · obtain ⟨u, h1, h2⟩ := hH'.row r row h
      exact ⟨u, getElem?_push_old h1, h2⟩
    · cases h
      exact ⟨v, by rw [← hH.len]; simp, hr⟩
  · rcases rowAt_push h1 with a | ⟨ra, a⟩ <;> rcases rowAt_push h2 with b | ⟨rb, b⟩
    · obtain ⟨x, hx, _⟩ := hH.row r row a
      obtain ⟨y, hy, _⟩ := hH.row r' row' b
      have hx' := getElem?_push_old (v := v) hx
      have hy' := getElem?_push_old (v := v) hy
      rw [h3] at hx'
      rw [h4] at hy'
      cases hx'
      cases hy'
      exact hH.apart r r' row row' _ _ g hne a b hx hy h5 h6
    · obtain ⟨x, hx, hxr⟩ := hH.row r row a
      have hx' := getElem?_push_old (v := v) hx
      rw [h3] at hx'
      cases hx'
      subst rb
      rw [← hH.len] at h4
      simp at h4
      subst h4
      have := hn g h6
      have := hxr.lt h5
      omega
    · obtain ⟨y, hy, hyr⟩ := hH.row r' row' b
      have hy' := getElem?_push_old (v := v) hy
      rw [h4] at hy'
      cases hy'
      subst ra
      rw [← hH.len] at h3
      simp at h3
      subst h3
      have := hn g h5
      have := hyr.lt h6
      omega
    · omega

theorem old_push {ρ : List Value} (v : Value) : ∀ (r : Nat) (u : Value), ρ[r]? = some u → (ρ ++ [v])[r]? = some u := fun _ _ h => getElem?_push_old h

theorem heap_old (w : World) (o : Obj) : ∀ k, k < w.heap.size → (w.alloc o).heap[k]? = w.heap[k]? := fun k hk => Below.heap_alloc w o k hk

theorem keep_alloc {w : World} {Pr : Nat → Prop} (hp : ∀ k, Pr k → k < w.heap.size) (o : Obj) : Keep Pr w (w.alloc o) :=
  Keep.of_below ((Below.refl _ _).alloc (Nat.le_refl _) o) hp

/-- A row in a new block. -/
theorem RowR.fresh {w : World} {Pr : Nat → Prop} (hp : ∀ k, Pr k → k < w.heap.size) {e : Nat} {vec : Vec} {cells : Array Value} (hc : AllR SCR vec.cells cells.toList) (hl : vec.xs.length ≤ maxLen) :
    RowR (w.alloc (.cells cells e)) Pr (.slice (some ⟨w.heap.size, 0, none⟩) vec.xs.length vec.xs.length) e vec := by
  have hlen : cells.toList.length = vec.xs.length * vec.k.sz := by rw [← hc.length, vec.len_cells]
  refine ⟨cells.toList, ⟨hlen, .inr ⟨w.heap.size, vec.xs.length, cells, rfl, Nat.zero_le _, heap_alloc_new w _, Nat.le_refl _, hl, by rw [← hlen]; simp, ?_⟩⟩, hc, ?_⟩
  · rw [← hlen]; exact List.take_length
  · intro g hg
    simp only [Value.ownBlock, Option.some.injEq] at hg
    subst hg
    intro h
    exact Nat.lt_irrefl _ (hp _ h)

/-- A new row that is a slice of slices. -/
theorem HR.push2 {w w' : World} {Pr : Nat → Prop} {ρ : List Value} {H : Hp} {v : Value} {e : Nat} {vec : Vec} {z : (k : K) × List (List k.ty)} {us : List Value} {I0 : Nat → Prop} (hH : HR w Pr ρ H) (hp : ∀ k, Pr k → k < w.heap.size)
    (hs : ∀ k, k < w.heap.size → w'.heap[k]? = w.heap[k]?) (hz : vec.two = some z) (hown : w'.ownsRow 0 e 1 v z.2.length us) (hin : AllR (fun xs u => InnR w' I0 z.1 xs u) z.2 us) (hdi : DistR us) (hd : ∀ g, v.ownBlock = some g → ¬ I0 g)
    (hnew : ∀ g, (I0 g ∨ v.ownBlock = some g) → w.heap.size ≤ g ∧ g < w'.heap.size) : HR w' Pr (ρ ++ [v]) (H ++ [some ⟨e, vec⟩]) := by
  have hH' := hH.keep hs
  have hk := two_is2 hz
  have hsz := size_same hs
  have old : ∀ {r : Nat} {row : Row}, rowAt (H ++ [some ⟨e, vec⟩]) r = some row → rowAt H r = some row := by
    intro r row h
    rcases rowAt_push h with h1 | ⟨_, h2⟩
    · exact h1
    · cases h2
      have := (rowAt_is2 h).1
      rw [hk] at this
      cases this
  have get : ∀ {r : Nat} {row : Row} {u : Value}, rowAt H r = some row → (ρ ++ [v])[r]? = some u → ρ[r]? = some u := by
    intro r row u h1 h2
    rw [List.getElem?_append_left (by rw [hH.len]; exact rowAt_lt h1)] at h2
    exact h2
  have getl : ∀ {r : Nat} {row : Row} {u : Value}, llAt H r = some row → (ρ ++ [v])[r]? = some u → ρ[r]? = some u := by
    intro r row u h1 h2
    rw [List.getElem?_append_left (by rw [hH.len]; exact llAt_lt h1)] at h2
    exact h2
  have lastv : ∀ {u : Value}, (ρ ++ [v])[H.length]? = some u → u = v := by
    intro u h
    rw [← hH.len] at h
    simp at h
    exact h.symm
  obtain ⟨I, hI⟩ := hH.ll
  refine ⟨by simp [hH.len], fun r row h => ?_, fun r r' row row' u u' g hne h1 h2 h3 h4 h5 => ?_, fun r g => (r = H.length ∧ I0 g) ∨ (r ≠ H.length ∧ I r g), fun r row z' h1 h2 => ?_⟩
  · obtain ⟨u, a1, a2⟩ := hH'.row r row (old h)
    exact ⟨u, getElem?_push_old a1, a2⟩
  · exact hH'.apart r r' row row' u u' g hne (old h1) (old h2) (get (old h1) h3) (get (old h2) h4) h5
  · rcases llAt_push h1 with a | ⟨rfl, a, _⟩
    · have hr : r ≠ H.length := Nat.ne_of_lt (llAt_lt a)
      obtain ⟨u, us', b1, b2, b3, bd, ba, b4, b5⟩ := hI r row z' a h2
      have hkp : ∀ g, (I r g ∨ u.ownBlock = some g) → w'.heap[g]? = w.heap[g]? := fun g hg => hs g (b5 g hg).1
      refine ⟨u, us', getElem?_push_old b1, ownsRow_keep (fun g hg => hkp g (.inr hg)) b2, b3.mono fun xs y hy => (hy.keep fun g hg => hkp g (.inl hg)).mono fun g hg => .inr ⟨hr, hg⟩, bd, ?_, ?_, ?_⟩
      · intro j i hj hlt
        rcases alAt_push hj with h | ⟨_, e', h⟩
        · obtain ⟨y, y1, y2⟩ := ba j i h hlt
          exact ⟨y, getElem?_push_old y1, y2⟩
        · cases h
          cases hk
      · rintro g hg (⟨e1, _⟩ | ⟨_, h⟩)
        · exact hr e1
        · exact b4 g hg h
      · intro g hg
        have hg' : I r g ∨ u.ownBlock = some g := by
          rcases hg with (⟨e1, _⟩ | ⟨_, h⟩) | h
          · exact absurd e1 hr
          · exact .inl h
          · exact .inr h
        obtain ⟨c1, c2, c3, c4⟩ := b5 g hg'
        refine ⟨by omega, c2, fun r' row' v' d1 d2 => c3 r' row' v' (old d1) (get (old d1) d2), fun r' row' v' d0 d1 d2 => ?_⟩
        rcases llAt_push d1 with d | ⟨rfl, _, _⟩
        · obtain ⟨e1, e2⟩ := c4 r' row' v' d0 d (getl d d2)
          refine ⟨?_, e2⟩
          rintro (⟨e3, _⟩ | ⟨_, h⟩)
          · exact absurd e3 (Nat.ne_of_lt (llAt_lt d))
          · exact e1 h
        · have := lastv d2
          subst this
          refine ⟨?_, ?_⟩
          · rintro (⟨_, h⟩ | ⟨h, _⟩)
            · have := (hnew g (.inl h)).1
              omega
            · exact h rfl
          · intro h
            have := (hnew g (.inr h)).1
            omega
    · cases a
      have : z' = z := by rw [hz] at h2; cases h2; rfl
      subst this
      refine ⟨v, us, by rw [← hH.len]; simp, hown, hin.mono fun xs y hy => hy.mono fun g hg => .inl ⟨rfl, hg⟩, hdi, ?_, ?_, ?_⟩
      · intro j i hj hlt
        rcases alAt_push hj with h | ⟨_, e', h⟩
        · have := alAt_lt h
          omega
        · cases h
          cases hk
      · rintro g hg (⟨_, h⟩ | ⟨h, _⟩)
        · exact hd g hg h
        · exact h rfl
      · intro g hg
        have hg' : I0 g ∨ v.ownBlock = some g := by
          rcases hg with (⟨_, h⟩ | ⟨h, _⟩) | h
          · exact .inl h
          · exact absurd rfl h
          · exact .inr h
        obtain ⟨c1, c2⟩ := hnew g hg'
        refine ⟨c2, fun hpr => by have := hp g hpr; omega, fun r' row' v' d1 d2 h => ?_, fun r' row' v' d0 d1 d2 => ?_⟩
        · obtain ⟨u2, f1, f2⟩ := hH.row r' row' (old d1)
          rw [get (old d1) d2] at f1
          cases f1
          have := f2.lt h
          omega
        · rcases llAt_push d1 with d | ⟨e3, _, _⟩
          · obtain ⟨z2, hz2⟩ := two_some (llAt_is2 d).1
            obtain ⟨u2, _, f1, _, _, _, _, _, f5⟩ := hI r' row' z2 d hz2
            rw [getl d d2] at f1
            cases f1
            refine ⟨?_, fun h => ?_⟩
            · rintro (⟨e4, _⟩ | ⟨_, h⟩)
              · exact d0 e4
              · have := (f5 g (.inl h)).1
                omega
            · have := (f5 g (.inr h)).1
              omega
          · exact absurd e3 d0

theorem TOK.ek2 (hT : TOK P T) {t : Nat} {k : K} (h : T.ek t = some k) : (k.is2 || k.isAl) = false := by
  obtain ⟨i, z, d, _, _, _, hz, _⟩ := hT.ek t k h
  cases k <;> first | rfl | exact hz.elim

/-- A slice that is made. -/
theorem does_fresh {o : Oper} {s : St} {e : Nat} {vec : Vec} (hk : (vec.k.is2 || vec.k.isAl) = false)
    (h : ∀ (a : Act) (w : World) (Pr : Nat → Prop) (ρ cargs : List Value), (∀ k, Pr k → k < w.heap.size) → HR w Pr ρ s.H → Opd Pr w ρ cargs s a o.op →
      ∃ (X : Sem Value) (cells : Array Value), execOp a.eval o = (do pure (.value (← X))) ∧ X.run P w = .ok (.slice (some ⟨w.heap.size, 0, none⟩) vec.xs.length vec.xs.length) (w.alloc (.cells cells e)) ∧ AllR SCR vec.cells cells.toList ∧ vec.xs.length ≤ maxLen) :
    Does P o s (.fv (.own s.H.length)) (s.H ++ [some ⟨e, vec⟩]) := by
  intro a w Pr ρ cargs hp hH ho
  obtain ⟨X, cells, h1, h2, h3, h4⟩ := h a w Pr ρ cargs hp hH ho
  refine yields_value h1 h2 ⟨ρ ++ [_], old_push _, ?_, hH.push (heap_old w _) (RowR.fresh hp h3 h4) hk ?_, keep_alloc hp _⟩
  · show (ρ ++ [_])[s.H.length]? = some _
    rw [← hH.len]; simp
  · intro g hg
    simp only [Value.ownBlock, Option.some.injEq] at hg
    omega

theorem maxLen_one : 1 ≤ maxLen := by unfold maxLen; omega

/-- A variable that is made. -/
theorem does_box {o : Oper} {s : St} {e : Nat} {kd : K} {x : kd.ty} (hk : (kd.is2 || kd.isAl) = false)
    (h : ∀ (a : Act) (w : World) (Pr : Nat → Prop) (ρ cargs : List Value), (∀ k, Pr k → k < w.heap.size) → HR w Pr ρ s.H → Opd Pr w ρ cargs s a o.op →
      ∃ (X : Sem Value) (cells : Array Value), execOp a.eval o = (do pure (.value (← X))) ∧ X.run P w = .ok (.pointer (some ⟨w.heap.size, 0, none⟩)) (w.alloc (.cells cells e)) ∧ AllR SCR (kd.f x).cells cells.toList) :
    Does P o s (.fv (.pt ⟨.r s.H.length, kd.sz, 0, 0⟩)) (s.H ++ [some ⟨e, ⟨kd, [x]⟩⟩]) := by
  intro a w Pr ρ cargs hp hH ho
  obtain ⟨X, cells, h1, h2, h3⟩ := h a w Pr ρ cargs hp hH ho
  have hc : AllR SCR (Vec.cells ⟨kd, [x]⟩) cells.toList := by
    unfold Vec.cells
    simpa using h3
  refine yields_value h1 h2 ⟨ρ ++ [_], old_push _, ?_, hH.push (heap_old w _) (RowR.fresh (vec := ⟨kd, [x]⟩) hp hc maxLen_one) hk ?_, keep_alloc hp _⟩
  · simp only [AVR, FVR, PtR]
    exact ⟨_, w.heap.size, by rw [← hH.len]; simp; rfl, rfl, by simp⟩
  · intro g hg
    simp only [Value.ownBlock, Option.some.injEq] at hg
    omega

theorem madeCells_rep {k : K} {z : Value} (hz : ElR (k.f k.z) z) (n : Nat) : AllR SCR (Vec.cells ⟨k, List.replicate n k.z⟩) ((Array.range (n * k.sz)).map (z.cells[· % z.cells.size]!)).toList := by
  obtain ⟨zs, h1, h2⟩ := ElR.cells hz
  have hl : zs.length = k.sz := by rw [← h2.length, K.len_f]
  have hsz : z.cells.size = k.sz := by rw [h1]; simpa using hl
  refine AllR.of_get (by simp [Vec.len_cells]) fun i c u hc hu => ?_
  have hlt : i < n * k.sz := by
    rcases Nat.lt_or_ge i (n * k.sz) with h' | h'
    · exact h'
    · rw [List.getElem?_eq_none (by simp [Vec.len_cells]; exact h')] at hc; cases hc
  have hmod : i % k.sz < k.sz := Nat.mod_lt _ k.sz_pos
  have hdm : (i / k.sz) * k.sz + i % k.sz = i := by rw [Nat.mul_comm]; exact Nat.div_add_mod i k.sz
  have hq : i / k.sz < n := (Nat.div_lt_iff_lt_mul k.sz_pos).2 hlt
  have h3 := Vec.get_cells ⟨k, List.replicate n k.z⟩ (i / k.sz) (i % k.sz) k.z (by simp [hq]) hmod
  dsimp only at h3
  rw [hdm, hc] at h3
  obtain ⟨u', hu', hr⟩ := h2.get (i % k.sz) c h3.symm
  have e : u = u' := by
    simp only [Array.toList_map, List.getElem?_map, Array.toList_range, List.getElem?_range hlt, Option.map_some, Option.some.injEq] at hu
    rw [← hu, hsz, h1]
    have : i % k.sz < zs.length := by omega
    simp only [List.getElem?_eq_getElem this, Option.some.injEq] at hu'
    simp [this, hu']
  rw [e]
  exact hr

theorem does_buildSlice (hT : TOK P T) {o : Oper} {s : St} {k : AV → Hp → R} {out : Out} {t n : Nat} {parts : Array (Nat × Operand)} (hop : o.op = .buildSlice t n parts) (h : opK T false (.buildSlice t n parts) s k = some out) :
    ∃ av H', k av H' = some out ∧ Does P o s av H' := by
  unfold opK at h
  simp only [cond_false] at h
  split at h
  · rename_i e ps he hps
    split at h
    · rename_i kd hkd
      split at h
      · rename_i xs hxs
        cases hn : decide (n ≤ 65536) with
        | false => rw [hn] at h; cases h
        | true =>
          rw [hn] at h
          replace hn := of_decide_eq_true hn
          refine ⟨_, _, h, does_fresh (hT.ek2 hkd) ?_⟩
          intro a w Pr ρ cargs hp hH ho
          obtain ⟨i, z, d, hi, hsz, hz, hze, _⟩ := hT.ek e kd hkd
          have hparts := evParts_mem hps (Pr := Pr) (w := w) (ρ := ρ) (cargs := cargs) (a := a) fun p hpm v hv => ho.fv p.2 (by rw [hop]; simp only [Op.operands]; simp; exact ⟨p.1, by simpa using hpm⟩) v hv
          obtain ⟨us', hf1, hf2, hf3⟩ := fillVec_ok ps _ _ ((Array.range (n * kd.sz)).map (z.cells[· % z.cells.size]!)) xs hxs hparts (madeCells_rep hze n)
          have hlen : xs.length = n := by rw [hf3]; simp
          refine ⟨Instr.buildSlice t n (parts.map fun p => (p.1, a.eval p.2)), us', by rw [exec_eq hop]; rfl, ?_, hf2, by dsimp only; rw [hlen]; unfold maxLen; omega⟩
          have hsmall : ¬ 2 ^ 24 < n * kd.sz := by
            have := kd.sz_le
            have h2 : n * kd.sz ≤ 65536 * 4 := Nat.mul_le_mul hn this
            omega
          dsimp only
          rw [hlen]
          by_cases h0 : n * kd.sz = 0
          · have hr0 : ∀ f : Nat → Value, (Array.range 0).map f = #[] := fun f => by rw [Array.range_zero']; simp
            rw [h0, hr0] at hf1
            simp [Instr.buildSlice, run_underlying (hT.sl t e he), sizeOf, typeInfo, hi, hsz, h0, newRow, hr0, hf1]
          · simp [Instr.buildSlice, run_underlying (hT.sl t e he), sizeOf, typeInfo, zeroValue, hi, hz, hsz, h0, hsmall, newRow, hf1]
      · cases h
    · cases h
  · cases h

theorem does_makeSlice (hT : TOK P T) {o : Oper} {s : St} {k : AV → Hp → R} {out : Out} {t : Nat} {l c : Operand} (hop : o.op = .makeSlice t l c) (h : opK T false (.makeSlice t l c) s k = some out) :
    ∃ av H', k av H' = some out ∧ Does P o s av H' := by
  unfold opK at h
  simp only [cond_false] at h
  split at h
  · rename_i e q1 n q2 m he hl hc
    split at h
    · rename_i kd hkd
      cases hn : decide (0 ≤ n ∧ n = m ∧ n ≤ 1099511627776) with
      | false => rw [hn] at h; cases h
      | true =>
        rw [hn] at h
        obtain ⟨h0, rfl, hle⟩ := of_decide_eq_true hn
        refine ⟨_, _, h, does_fresh (hT.ek2 hkd) ?_⟩
        intro a w Pr ρ cargs hp hH ho
        obtain ⟨i, z, d, hi, hsz, hz, hze, hby, _⟩ := hT.ek e kd hkd
        have h1 : a.eval l = .int q1 n := ho.fv l (by rw [hop]; simp [Op.operands]) _ hl
        have h2 : a.eval c = .int q2 n := ho.fv c (by rw [hop]; simp [Op.operands]) _ hc
        refine ⟨Instr.makeSlice t (a.eval l) (a.eval c), (Array.range (n.toNat * kd.sz)).map (z.cells[· % z.cells.size]!), by rw [exec_eq hop]; rfl, ?_, madeCells_rep hze n.toNat, by simp; unfold maxLen; omega⟩
        have hb : (i.bytes : Int) * n ≤ 281474976710656 := by
          have h3 : (i.bytes : Int) * n ≤ 64 * n := Int.mul_le_mul_of_nonneg_right (by omega) h0
          omega
        have hr := run_make (P := P) w t e i z (hT.sl t e he) hi hz q1 q2 n n h0 (Int.le_refl _) hb (by omega)
        rw [h1, h2, hr]
        simp [madeCells, hsz]
    · split at h
      · rename_i e2 he2
        split at h
        · rename_i kd hkd
          split at h
          · rename_i vec hvec
            cases hn : decide (0 ≤ n ∧ n = m ∧ n ≤ 1099511627776) with
            | false => rw [hn] at h; cases h
            | true =>
              rw [hn] at h
              obtain ⟨h0, rfl, hle⟩ := of_decide_eq_true hn
              refine ⟨_, _, h, ?_⟩
              intro a w Pr ρ cargs hp hH ho
              obtain ⟨i, hi, hsz, hz, hby⟩ := hT.s1 e e2 he2
              have h1 : a.eval l = .int q1 n := ho.fv l (by rw [hop]; simp [Op.operands]) _ hl
              have h2 : a.eval c = .int q2 n := ho.fv c (by rw [hop]; simp [Op.operands]) _ hc
              have hb : (i.bytes : Int) * n ≤ 281474976710656 := by
                have h3 : (i.bytes : Int) * n ≤ 64 * n := Int.mul_le_mul_of_nonneg_right (by omega) h0
                omega
              have hr := run_make (P := P) w t e i (.slice none 0 0) (hT.sl t e he) hi hz q1 q2 n n h0 (Int.le_refl _) hb (by omega)
              have hcells : (madeCells (Value.slice none 0 0).cells (n.toNat * i.size)).toList = List.replicate n.toNat (.slice none 0 0) := by
                rw [hsz, Nat.mul_one]
                apply List.ext_getElem?
                intro j
                unfold madeCells
                simp only [Array.toList_map, Array.toList_range, List.getElem?_map, List.getElem?_replicate]
                by_cases hj : j < n.toNat
                · rw [List.getElem?_range hj, if_pos hj]
                  simp [Value.cells, Nat.mod_one]
                · rw [if_neg hj, List.getElem?_eq_none (by simpa using hj)]
                  rfl
              have hlen : (madeCells (Value.slice none 0 0).cells (n.toNat * i.size)).size = n.toNat := by rw [size_madeCells, hsz, Nat.mul_one]
              refine yields_value (x := Instr.makeSlice t (a.eval l) (a.eval c)) (by rw [exec_eq hop]; rfl) (by rw [h1, h2]; exact hr) ⟨ρ ++ [.slice (some ⟨w.heap.size, 0, none⟩) n.toNat n.toNat], old_push _, ?_, hH.push2 (v := .slice (some ⟨w.heap.size, 0, none⟩) n.toNat n.toNat) (I0 := fun _ => False) (us := List.replicate n.toNat (.slice none 0 0)) hp (heap_old w _) (of2_two hvec) ?_ ?_ (fun q q' y y' g _ h _ hg => by rw [List.getElem?_replicate] at h; split at h <;> cases h; cases hg) (fun _ _ h => h) ?_, keep_alloc hp _⟩
              · show (ρ ++ [_])[s.H.length]? = some _
                rw [← hH.len]; simp
              · refine ⟨by simp, .inr ⟨w.heap.size, n.toNat, _, by simp, Nat.zero_le _, heap_alloc_new w _, by simp, by simp; unfold maxLen; omega, by rw [hlen]; simp, ?_⟩⟩
                rw [hcells]
                simp
              · exact AllR.replicate ⟨0, [], ⟨by simp, .inl ⟨rfl, rfl⟩⟩, trivial, fun g hg => by cases hg⟩ _
              · intro g hg
                rcases hg with hg | hg
                · exact hg.elim
                · simp only [Value.ownBlock, Option.some.injEq] at hg
                  subst hg
                  exact ⟨Nat.le_refl _, (Array.getElem?_eq_some_iff.1 (heap_alloc_new w _)).1⟩
          · cases h
        · cases h
      · cases h
  · cases h

theorem does_alloc (hT : TOK P T) {o : Oper} {s : St} {k : AV → Hp → R} {out : Out} {t : Nat} (hop : o.op = .alloc t) (h : opK T false (.alloc t) s k = some out) :
    ∃ av H', k av H' = some out ∧ Does P o s av H' := by
  unfold opK at h
  simp only [cond_false] at h
  split at h
  · rename_i kd hkd
    refine ⟨_, _, h, does_box (hT.ek2 hkd) ?_⟩
    intro a w Pr ρ cargs hp hH ho
    obtain ⟨i, z, d, hi, hsz, hz, hze, hby, _⟩ := hT.ek t kd hkd
    obtain ⟨zs, h1, h2⟩ := ElR.cells hze
    refine ⟨Instr.alloc t true (.tuple #[]), z.cells, by rw [exec_eq hop]; rfl, ?_, by rw [h1]; exact h2⟩
    simp [Instr.alloc, zeroValue, typeInfo, hi, hz, newVar, newRow]
  · cases h

theorem does_boxed {o : Oper} {s : St} {k : AV → Hp → R} {out : Out} {t : Nat} {x : Operand} (hop : o.op = .box t x) (h : opK T false (.box t x) s k = some out) :
    ∃ av H', k av H' = some out ∧ Does P o s av H' := by
  unfold opK at h
  simp only [cond_false] at h
  split at h
  · rename_i kd e hkd he
    split at h
    · rename_i y hy
      refine ⟨_, _, h, does_box (g_is2 hy) ?_⟩
      intro a w Pr ρ cargs hp hH ho
      have hx : ElR e (a.eval x) := ho.fv x (by rw [hop]; simp [Op.operands]) _ he
      rw [← K.g_f hy] at hx
      obtain ⟨zs, h1, h2⟩ := ElR.cells hx
      refine ⟨Instr.box t (a.eval x), (a.eval x).cells, by rw [exec_eq hop]; rfl, ?_, by rw [h1]; exact h2⟩
      simp [Instr.box, newVar, newRow]
    · cases h
  · cases h

/-! ### Writing -/

theorem flat_set1 {α β : Type} (f : α → List β) (n : Nat) (hf : ∀ a, (f a).length = n) : ∀ (xs : List α) (i j : Nat) (a b : α) (s : β), xs[i]? = some a → f b = (f a).set j s → j < n →
    (xs.set i b).flatMap f = (xs.flatMap f).set (i * n + j) s
  | [], i, j, a, b, s, h, _, _ => by simp at h
  | x :: xs, 0, j, a, b, s, h, hb, hj => by
    simp at h
    subst h
    simp only [List.set_cons_zero, List.flatMap_cons, Nat.zero_mul, Nat.zero_add, hb]
    rw [List.set_append_left _ _ (by rw [hf]; exact hj)]
  | x :: xs, i + 1, j, a, b, s, h, hb, hj => by
    have ih := flat_set1 f n hf xs i j a b s (by simpa using h) hb hj
    have e : (i + 1) * n + j = n + (i * n + j) := by rw [Nat.add_mul]; omega
    simp only [List.set_cons_succ, List.flatMap_cons, ih, e]
    rw [List.set_append_right _ _ (by rw [hf]; omega), hf, Nat.add_sub_cancel_left]

theorem take_mid {α : Type} (L vs : List α) (off N : Nat) (h1 : off + vs.length ≤ N) (h2 : N ≤ L.length) :
    (L.take off ++ vs ++ L.drop (off + vs.length)).take N = (L.take N).take off ++ vs ++ (L.take N).drop (off + vs.length) := by
  have hl : (L.take off ++ vs).length = off + vs.length := by simp; omega
  rw [List.take_append, List.take_of_length_le (by rw [hl]; exact h1), hl, List.take_take, Nat.min_eq_left (by omega), List.drop_take]

/-- Cells of a row that are written. -/
theorem write_row {w : World} {b e size n : Nat} {v : Value} {xs : List Value} {g : Nat} (h : w.ownsRow b e size v n xs) (hg : v.ownBlock = some g) (off : Nat) (vs : List Value) (hl : off + vs.length ≤ xs.length) (h1 : ∀ u ∈ vs, u.oneCell' = true) :
    ∃ w', (storeCells ⟨g, off, none⟩ vs).run P w = .ok () w' ∧ w'.ownsRow b e size v n (xs.take off ++ vs ++ xs.drop (off + vs.length)) ∧ (∀ k, k ≠ g → w'.heap[k]? = w.heap[k]?) ∧
      w'.os = w.os ∧ w'.tape = w.tape ∧ w'.output = w.output ∧ w'.heap.size = w.heap.size := by
  obtain ⟨hx, h2⟩ := h
  rcases h2 with ⟨rfl, _⟩ | ⟨g', cap, cur, rfl, hb, hgg, hnc, hcm, hcs, htake⟩
  · simp [Value.ownBlock] at hg
  · simp only [Value.ownBlock, Option.some.injEq] at hg
    subst hg
    have hxl : xs.length ≤ cur.size := by rw [← htake]; simp; omega
    have hst := run_storeCells_at P g' off e vs 0 cur w hgg (by omega) h1
    simp only [Nat.add_zero] at hst
    refine ⟨_, hst, ⟨?_, .inr ⟨g', cap, _, rfl, hb, setRow_heap w g' cur _ e _ hgg, hnc, hcm, ?_, ?_⟩⟩, fun k hk => setRow_other w g' k _ hk, rfl, rfl, rfl, by simp⟩
    · simp only [List.length_append, List.length_take, List.length_drop]
      omega
    · simp only [List.size_toArray, List.length_append, List.length_take, List.length_drop, Array.length_toList]
      omega
    · have hns : n * size ≤ cur.size := by rw [hcs]; exact Nat.mul_le_mul_right _ hnc
      rw [hx] at hl
      rw [← htake]
      exact take_mid cur.toList vs off (n * size) hl (by simpa using hns)

theorem alAt_set {H : Hp} {r r' : Nat} {x : Option Row} {p : Nat × Nat} (h : alAt (H.set r x) r' = some p) : (r ≠ r' ∧ alAt H r' = some p) ∨ (r = r' ∧ ∃ e, x = some ⟨e, ⟨.al, [p]⟩⟩) := by
  obtain ⟨e, hr⟩ := alAt_at h
  rcases at_set hr with ⟨h1, h2⟩ | h1
  · exact .inl ⟨h1, alAt_of h2⟩
  · exact .inr ⟨h1.1, e, h1.2⟩

theorem noAl_spec : ∀ {H : Hp}, noAl H = true → ∀ r, alAt H r = none
  | [], _, r => by cases r <;> rfl
  | x :: H, h, r => by
    have key : alAt (x :: H) 0 = none ∧ noAl H = true := by
      unfold noAl at h
      split at h
      · rename_i heq; cases heq
      · cases h
      · rename_i y H' hne heq
        cases heq
        refine ⟨?_, h⟩
        cases hx : alAt (x :: H) 0 with
        | none => rfl
        | some p =>
          obtain ⟨e, hr⟩ := alAt_at hx
          simp at hr
          exact absurd hr (fun hr => hne e [p] hr)
    cases r with
    | zero => exact key.1
    | succ r => exact (alAt_same (H := x :: H) (H' := H) (r := r + 1) (r' := r) (by simp)).trans (noAl_spec key.2 r)

theorem rowAt_set {H : Hp} {r r' : Nat} {x : Option Row} {row : Row} (h : rowAt (H.set r x) r' = some row) : (r ≠ r' ∧ rowAt H r' = some row) ∨ (r = r' ∧ x = some row) := by
  obtain ⟨hk, hr⟩ := rowAt_no h
  rcases at_set hr with ⟨h1, h2⟩ | h1
  · exact .inl ⟨h1, rowAt_of h2 hk⟩
  · exact .inr h1

theorem llAt_set {H : Hp} {r r' : Nat} {x : Option Row} {row : Row} (h : llAt (H.set r x) r' = some row) : (r ≠ r' ∧ llAt H r' = some row) ∨ (r = r' ∧ x = some row) := by
  obtain ⟨hk, hr⟩ := llAt_is2 h
  rcases at_set hr with ⟨h1, h2⟩ | h1
  · exact .inl ⟨h1, llAt_of h2 hk⟩
  · exact .inr h1

/-- What is said of slices of slices, behind a row that is changed (or given up). -/
theorem LLR.set {w w' : World} {Pr : Nat → Prop} {ρ : List Value} {H : Hp} {r : Nat} {x : Option Row} (h : LLR w Pr ρ H) (hsz : w.heap.size ≤ w'.heap.size) (hx : ∀ row, x = some row → (row.v.k.is2 || row.v.k.isAl) = false) (hold : ∀ row, x = some row → ∃ row0, rowAt H r = some row0)
    (hheap : ∀ g, g < w.heap.size → (∀ (r : Nat) (row : Row) (v : Value), rowAt H r = some row → ρ[r]? = some v → v.ownBlock ≠ some g) → w'.heap[g]? = w.heap[g]?) : LLR w' Pr ρ (H.set r x) := by
  refine h.step hsz hheap (fun r' row hr => ?_) (fun r' p hr => ?_) fun r' row u g h1 h2 h3 => ?_
  · rcases llAt_set hr with ⟨_, h1⟩ | ⟨_, h1⟩
    · exact ⟨h1, rfl⟩
    · have := hx row h1
      rw [(llAt_is2 hr).1] at this
      cases this
  · rcases alAt_set hr with ⟨_, h1⟩ | ⟨_, e, h1⟩
    · exact ⟨h1, rfl⟩
    · have := hx _ h1
      cases this
  · rcases rowAt_set h1 with ⟨_, h4⟩ | ⟨rfl, h4⟩
    · exact .inr ⟨r', row, u, h4, h2, h3⟩
    · obtain ⟨row0, h5⟩ := hold row h4
      exact .inr ⟨r, row0, u, h5, h2, h3⟩

theorem setElt_ok {k : K} {a b : k.ty} {whole : Bool} {j : Nat} {x : Elt} (h : setElt k a whole j x = some b) :
    (whole = true ∧ k.f b = x) ∨ (whole = false ∧ ∃ c, x = .sc c ∧ (k.f b).cells = (k.f a).cells.set j c) := by
  unfold setElt at h
  cases whole with
  | true => exact .inl ⟨rfl, K.g_f h⟩
  | false =>
    simp only [cond_false] at h
    split at h
    · rename_i c
      exact .inr ⟨rfl, c, rfl, by rw [K.g_f h]; rfl⟩
    · cases h

theorem RowR.viewOwn {w : World} {Pr : Nat → Prop} {v : Value} {e : Nat} {vec : Vec} (h : RowR w Pr v e vec) : VwR w (fun k => v.ownBlock = some k) v vec := by
  obtain ⟨vs, hown, hvs, _⟩ := h
  rcases hown.2 with ⟨h1, h2⟩ | ⟨g, cap, cur, h1, _, h3, h4, _⟩
  · exact .inl ⟨h1, List.eq_nil_of_length_eq_zero h2⟩
  · refine .inr ⟨⟨g, 0, none⟩, cap, h1, h4, .inr (by rw [h1]; rfl), ?_⟩
    intro i c hi
    obtain ⟨u, hu, hc⟩ := hvs.get i c hi
    exact ⟨u, hown.cells (by rw [h1]; rfl) i u hu, hc⟩

/-- A row put into a slice of slices. -/
theorem HR.put {w w' : World} {Pr : Nat → Prop} {ρ : List Value} {H : Hp} {r r2 i : Nat} {row row2 : Row} {z : (k : K) × List (List k.ty)} {ys : List z.1.ty} {vec : Vec} {vr u2 : Value} {g : Nat} {us : List Value} {I : Nat → Nat → Prop}
    (hH : HR w Pr ρ H) (hI : LLI I w Pr ρ H) (hr : llAt H r = some row) (hr2 : rowAt H r2 = some row2) (hc : row2.v = ⟨z.1, ys⟩) (hv : Vec.of2 z.1 (z.2.set i ys) = some vec) (hvr : ρ[r]? = some vr) (hu2 : ρ[r2]? = some u2)
    (hg : vr.ownBlock = some g) (hna : noAl H = true) (a3 : AllR (fun xs u => InnR w (I r) z.1 xs u) z.2 us) (ad : DistR us) (a4 : ∀ g, vr.ownBlock = some g → ¬ I r g)
    (a5 : ∀ g, (I r g ∨ vr.ownBlock = some g) → g < w.heap.size ∧ ¬ Pr g ∧ (∀ (r' : Nat) (row' : Row) (v' : Value), rowAt H r' = some row' → ρ[r']? = some v' → v'.ownBlock ≠ some g) ∧
      (∀ (r' : Nat) (row' : Row) (v' : Value), r' ≠ r → llAt H r' = some row' → ρ[r']? = some v' → ¬ I r' g ∧ v'.ownBlock ≠ some g))
    (hown : w'.ownsRow 0 row.e 1 vr z.2.length (us.set i u2)) (hoth : ∀ k, k ≠ g → w'.heap[k]? = w.heap[k]?) (hsz : w'.heap.size = w.heap.size) : HR w' Pr ρ ((H.set r2 none).set r (some ⟨row.e, vec⟩)) := by
  have hv2 := of2_two hv
  have hvk := two_is2 hv2
  have rold : ∀ {q : Nat} {row' : Row}, rowAt ((H.set r2 none).set r (some ⟨row.e, vec⟩)) q = some row' → r2 ≠ q ∧ r ≠ q ∧ rowAt H q = some row' := by
    intro q row' h
    rcases rowAt_set h with ⟨n1, h1⟩ | ⟨rfl, h1⟩
    · rcases rowAt_set h1 with ⟨n2, h2⟩ | ⟨_, h2⟩
      · exact ⟨n2, n1, h2⟩
      · cases h2
    · cases h1
      have := (rowAt_is2 h).1
      rw [hvk] at this
      cases this
  have lold : ∀ {q : Nat} {row' : Row}, llAt ((H.set r2 none).set r (some ⟨row.e, vec⟩)) q = some row' → (r ≠ q ∧ llAt H q = some row') ∨ (r = q ∧ row' = ⟨row.e, vec⟩) := by
    intro q row' h
    rcases llAt_set h with ⟨n1, h1⟩ | ⟨e, h1⟩
    · rcases llAt_set h1 with ⟨n2, h2⟩ | ⟨_, h2⟩
      · exact .inl ⟨n1, h2⟩
      · cases h2
    · cases h1
      exact .inr ⟨e, rfl⟩
  obtain ⟨u2', b0, b2⟩ := hH.row r2 row2 hr2
  rw [hu2] at b0
  cases b0
  have hb2 : ∀ k, u2.ownBlock = some k → k < w.heap.size ∧ k ≠ g := fun k hk => ⟨b2.lt hk, fun e => (a5 g (.inr hg)).2.2.1 r2 row2 u2 hr2 hu2 (e ▸ hk)⟩
  have hnew : InnR w' (fun k => u2.ownBlock = some k) z.1 ys u2 := by
    obtain ⟨vs2, h1, h2, _⟩ := b2.keep (w' := w') fun k hk => hoth k (hb2 k hk).2
    rw [hc] at h1 h2
    exact ⟨row2.e, vs2, h1, h2, fun k hk => hk⟩
  have hnal : ∀ (j : Nat) (p : Nat × Nat), alAt ((H.set r2 none).set r (some ⟨row.e, vec⟩)) j ≠ some p := by
    intro j p h
    rcases alAt_set h with ⟨_, h1⟩ | ⟨_, e, h1⟩
    · rcases alAt_set h1 with ⟨_, h2⟩ | ⟨_, e, h2⟩
      · rw [noAl_spec hna] at h2; cases h2
      · cases h2
    · cases h1
      cases hvk
  have hnp : ∀ k, u2.ownBlock = some k → ¬ Pr k := by
    obtain ⟨_, _, _, h⟩ := b2
    exact h
  refine ⟨by rw [List.length_set, List.length_set]; exact hH.len, fun q row' h => ?_, fun q q' row' row'' v v' k hne h1 h2 h3 h4 h5 => hH.apart q q' row' row'' v v' k hne (rold h1).2.2 (rold h2).2.2 h3 h4 h5, fun q k => I q k ∨ (q = r ∧ u2.ownBlock = some k), fun q row' z' h1 h2 => ?_⟩
  · obtain ⟨v, hv', hrr⟩ := hH.row q row' (rold h).2.2
    exact ⟨v, hv', hrr.keep fun k hk => hoth k fun e => (a5 g (.inr hg)).2.2.1 q row' v (rold h).2.2 hv' (e ▸ hk)⟩
  · rcases lold h1 with ⟨n, h⟩ | ⟨rfl, rfl⟩
    · obtain ⟨v, us', c1, c2, c3, cd, _, c4, c5⟩ := hI q row' z' h h2
      have hkp : ∀ k, (I q k ∨ v.ownBlock = some k) → w'.heap[k]? = w.heap[k]? := fun k hk => hoth k fun e => ((c5 k hk).2.2.2 r row vr n hr hvr).2 (e ▸ hg)
      refine ⟨v, us', c1, ownsRow_keep (fun k hk => hkp k (.inr hk)) c2, c3.mono fun xs y hy => (hy.keep fun k hk => hkp k (.inl hk)).mono fun k hk => .inl hk, cd, fun j i' hj => absurd hj (hnal j _), ?_, ?_⟩
      · rintro k hk (h | ⟨e, _⟩)
        · exact c4 k hk h
        · exact n e.symm
      · intro k hk
        have hk' : I q k ∨ v.ownBlock = some k := by
          rcases hk with (h | ⟨e, _⟩) | h
          · exact .inl h
          · exact absurd e.symm n
          · exact .inr h
        obtain ⟨d1, d2, d3, d4⟩ := c5 k hk'
        refine ⟨by omega, d2, fun r' row'' v' e1 e2 => d3 r' row'' v' (rold e1).2.2 e2, fun r' row'' v' e0 e1 e2 => ?_⟩
        rcases lold e1 with ⟨n', e1'⟩ | ⟨rfl, rfl⟩
        · obtain ⟨f1, f2⟩ := d4 r' row'' v' e0 e1' e2
          refine ⟨?_, f2⟩
          rintro (h | ⟨e, _⟩)
          · exact f1 h
          · exact n' e.symm
        · obtain ⟨f1, f2⟩ := d4 r row vr e0 hr hvr
          rw [hvr] at e2
          cases e2
          refine ⟨?_, f2⟩
          rintro (h | ⟨_, h⟩)
          · exact f1 h
          · exact d3 r2 row2 u2 hr2 hu2 h
    · rw [hv2] at h2
      cases h2
      refine ⟨vr, us.set i u2, hvr, by rw [List.length_set]; exact hown, ?_, ?_, fun j i' hj => absurd hj (hnal j _), ?_, ?_⟩
      · exact (a3.mono fun xs y hy => (InnR.keep (fun k hk => hoth k fun e => a4 g hg (e ▸ hk)) hy).mono fun k hk => .inl hk).set i (hnew.mono fun k hk => .inr ⟨rfl, hk⟩)
      · have hin : ∀ (q : Nat) (y : Value) (k : Nat), us[q]? = some y → y.ownBlock = some k → u2.ownBlock ≠ some k := by
          intro q y k hq hk h
          obtain ⟨xs, _, _, _, _, _, h3⟩ := a3.getR q y hq
          exact (a5 k (.inl (h3 k hk))).2.2.1 r2 row2 u2 hr2 hu2 h
        intro q q' y y' k hne hq hq' hk hk'
        rw [List.getElem?_set] at hq hq'
        by_cases e1 : i = q
        · rw [if_pos e1] at hq
          have e2 : ¬ i = q' := fun e2 => hne (e1.symm.trans e2)
          rw [if_neg e2] at hq'
          split at hq
          · simp only [Option.some.injEq] at hq
            subst hq
            exact hin q' y' k hq' hk' hk
          · cases hq
        · rw [if_neg e1] at hq
          by_cases e2 : i = q'
          · rw [if_pos e2] at hq'
            split at hq'
            · simp only [Option.some.injEq] at hq'
              subst hq'
              exact hin q y k hq hk hk'
            · cases hq'
          · rw [if_neg e2] at hq'
            exact ad q q' y y' k hne hq hq' hk hk'
      · rintro k hk (h | ⟨_, h⟩)
        · exact a4 k hk h
        · exact (a5 k (.inr hk)).2.2.1 r2 row2 u2 hr2 hu2 h
      · have tr : ∀ k, (I r k ∨ vr.ownBlock = some k) → k < w'.heap.size ∧ ¬ Pr k ∧ (∀ (r' : Nat) (row' : Row) (v' : Value), rowAt ((H.set r2 none).set r (some ⟨row.e, vec⟩)) r' = some row' → ρ[r']? = some v' → v'.ownBlock ≠ some k) ∧
            (∀ (r' : Nat) (row' : Row) (v' : Value), r' ≠ r → llAt ((H.set r2 none).set r (some ⟨row.e, vec⟩)) r' = some row' → ρ[r']? = some v' → ¬ (I r' k ∨ (r' = r ∧ u2.ownBlock = some k)) ∧ v'.ownBlock ≠ some k) := by
          intro k hk
          obtain ⟨d1, d2, d3, d4⟩ := a5 k hk
          refine ⟨by omega, d2, fun r' row'' v' e1 e2 => d3 r' row'' v' (rold e1).2.2 e2, fun r' row'' v' e0 e1 e2 => ?_⟩
          rcases lold e1 with ⟨n', e1'⟩ | ⟨e3, _⟩
          · obtain ⟨f1, f2⟩ := d4 r' row'' v' e0 e1' e2
            refine ⟨?_, f2⟩
            rintro (h | ⟨e, _⟩)
            · exact f1 h
            · exact e0 e
          · exact absurd e3.symm e0
        intro k hk
        rcases hk with (h | ⟨_, h⟩) | h
        · exact tr k (.inl h)
        · refine ⟨by have := (hb2 k h).1; omega, hnp k h, fun r' row'' v' e1 e2 => hH.apart r2 r' row2 row'' u2 v' k (rold e1).1 hr2 (rold e1).2.2 hu2 e2 h, fun r' row'' v' e0 e1 e2 => ?_⟩
          rcases lold e1 with ⟨n', e1'⟩ | ⟨e3, _⟩
          · obtain ⟨z3, hz3⟩ := two_some (llAt_is2 e1').1
            obtain ⟨v3, _, g1, _, _, _, _, _, g5⟩ := hI r' row'' z3 e1' hz3
            rw [e2] at g1
            cases g1
            refine ⟨?_, fun h' => (g5 k (.inr h')).2.2.1 r2 row2 u2 hr2 hu2 h⟩
            rintro (h' | ⟨e, _⟩)
            · exact (g5 k (.inl h')).2.2.1 r2 row2 u2 hr2 hu2 h
            · exact e0 e
          · exact absurd e3.symm e0
        · exact tr k (.inr h)

theorem does_put (hT : TOK P T) {o : Oper} {s : St} {k : Hp → R} {out : Out} {t r i r2 : Nat} {x y : Operand} (hop : o.op = .store t x y) (hx : evO s x = some (.pl r i)) (hy : evO s y = some (.own r2)) (h : putK T s.H t r i r2 k = some out) :
    ∃ H', k H' = some out ∧ Does P o s .un H' := by
  unfold putK at h
  split at h
  · rename_i e row row2 he hrow hrow2
    split at h
    · rename_i z hz
      split at h
      · rename_i ys hys
        cases hi : (noAl s.H && decide (i < z.2.length)) with
        | false => rw [hi] at h; cases h
        | true =>
          rw [hi] at h
          obtain ⟨hna, hi⟩ := Bool.and_eq_true_iff.1 hi
          replace hi := of_decide_eq_true hi
          simp only [cond_true] at h
          split at h
          · rename_i vec hvec
            refine ⟨_, h, ?_⟩
            intro act w Pr ρ cargs hp hH ho
            obtain ⟨ti, hti, htsz, _⟩ := hT.s1 t e he
            obtain ⟨vr, g, hr1, hr2, hr3⟩ := ho.fv x (by rw [hop]; simp [Op.operands]) _ hx
            have hu2 : ρ[r2]? = some (act.eval y) := ho.fv y (by rw [hop]; simp [Op.operands]) _ hy
            obtain ⟨I, hI⟩ := hH.ll
            obtain ⟨vr', us, a1, a2, a3, ad, _, a4, a5⟩ := hI r row z hrow hz
            rw [hr1] at a1
            cases a1
            have hul : us.length = z.2.length := by rw [a2.1, Nat.mul_one]
            obtain ⟨u2, b1, b2⟩ := hH.row r2 row2 hrow2
            rw [hu2] at b1
            cases b1
            have hone : (act.eval y).oneCell' = true ∧ (act.eval y).cells = #[act.eval y] := by
              obtain ⟨vs, hown, _⟩ := b2
              rcases hown.2 with ⟨h1, _⟩ | ⟨g', cap, cur, h1, _⟩ <;> rw [h1] <;> exact ⟨rfl, rfl⟩
            obtain ⟨w', hst, hown', hoth, hos, htape, hout, hsize⟩ := write_row (P := P) a2 hr2 i [act.eval y] (by simp; omega) (fun u hu => by simp at hu; subst hu; exact hone.1)
            have hset : us.take i ++ [act.eval y] ++ us.drop (i + [act.eval y].length) = us.set i (act.eval y) := by
              rw [List.set_eq_take_append_cons_drop, if_pos (by omega)]
              simp
            rw [hset] at hown'
            unfold Yields
            rw [exec_eq hop]
            have hrun : (Instr.storeAt t (act.eval x) (act.eval y)).run P w = .ok () w' := by
              rw [hr3]
              simp [Instr.storeAt, Instr.sureAddr, storeVar, hone.2, sizeOf, typeInfo, hti, htsz, hst]
            simp only [execOp, Sem.run_bind, hrun, Result.andThen_ok, Sem.run_pure]
            exact ⟨ρ, fun _ _ h => h, rfl, hH.put hI hrow hrow2 (cast_ok hys) hvec hr1 hu2 hr2 hna a3 ad a4 a5 hown' hoth hsize, ⟨hos, htape, hout, by omega, fun j hj => hoth j fun e => (a5 g (.inr hr2)).2.1 (e ▸ hj)⟩⟩
          · cases h
      · cases h
    · cases h
  · cases h

/-- Another name for a slice of a slice of slices. -/
theorem HR.alias {w : World} {Pr : Nat → Prop} {ρ : List Value} {H : Hp} {r i g : Nat} {row : Row} {z : (k : K) × List (List k.ty)} {xs : List z.1.ty} {vr : Value} (hH : HR w Pr ρ H) (hr : llAt H r = some row) (hz : row.v.two = some z) (hi : z.2[i]? = some xs)
    (hvr : ρ[r]? = some vr) (hg : vr.ownBlock = some g) : ∃ u, w.cell? ⟨g, i, none⟩ = some u ∧ HR w Pr (ρ ++ [u]) (H ++ [some ⟨0, ⟨.al, [(r, i)]⟩⟩]) := by
  obtain ⟨I, hI⟩ := hH.ll
  obtain ⟨v, us, a1, a2, a3, ad, aa, a4, a5⟩ := hI r row z hr hz
  rw [hvr] at a1
  cases a1
  obtain ⟨u, hu, _⟩ := a3.get i xs hi
  have hcell : w.cell? ⟨g, i, none⟩ = some u := by
    have := a2.cells hg i u hu
    first
      | exact this
      | (unfold Addr.add at this; split at this <;> simp_all)
  have old : ∀ {q : Nat} {row' : Row}, rowAt (H ++ [some ⟨0, ⟨.al, [(r, i)]⟩⟩]) q = some row' → rowAt H q = some row' := by
    intro q row' h
    rcases rowAt_push h with h1 | ⟨_, h2⟩
    · exact h1
    · cases h2
      have := (rowAt_no h).1
      cases this
  have lold : ∀ {q : Nat} {row' : Row}, llAt (H ++ [some ⟨0, ⟨.al, [(r, i)]⟩⟩]) q = some row' → llAt H q = some row' := by
    intro q row' h
    rcases llAt_push h with h1 | ⟨_, h2, h3⟩
    · exact h1
    · cases h2
      cases h3
  have get : ∀ {q : Nat} {y : Value}, q < H.length → (ρ ++ [u])[q]? = some y → ρ[q]? = some y := by
    intro q y h1 h2
    rw [List.getElem?_append_left (by rw [hH.len]; exact h1)] at h2
    exact h2
  refine ⟨u, hcell, by simp [hH.len], fun q row' h => ?_, fun q q' row' row'' y y' k hne h1 h2 h3 h4 h5 => hH.apart q q' row' row'' y y' k hne (old h1) (old h2) (get (rowAt_lt (old h1)) h3) (get (rowAt_lt (old h2)) h4) h5, I, fun q row' z' h1 h2 => ?_⟩
  · obtain ⟨y, b1, b2⟩ := hH.row q row' (old h)
    exact ⟨y, getElem?_push_old b1, b2⟩
  · obtain ⟨v', us', c1, c2, c3, cd, ca, c4, c5⟩ := hI q row' z' (lold h1) h2
    refine ⟨v', us', getElem?_push_old c1, c2, c3, cd, fun j i' hj hlt => ?_, c4, fun k hk => ?_⟩
    · rcases alAt_push hj with h | ⟨rfl, e, h⟩
      · obtain ⟨y, y1, y2⟩ := ca j i' h hlt
        exact ⟨y, getElem?_push_old y1, y2⟩
      · have hp : (r, i) = (q, i') := by cases h; rfl
        cases hp
        rw [hvr] at c1
        cases c1
        have : row' = row := by have := lold h1; rw [hr] at this; cases this; rfl
        subst this
        rw [hz] at h2
        cases h2
        have hlen : us = us' := by
          refine List.ext_getElem? fun q => ?_
          cases h1 : us[q]? with
          | none =>
            have h2 : us'.length ≤ q := by
              have := List.getElem?_eq_none_iff.1 h1
              rw [← c3.length, a3.length]
              exact this
            rw [List.getElem?_eq_none h2]
          | some y =>
            obtain ⟨xs', d1, _⟩ := a3.getR q y h1
            obtain ⟨y', d2, _⟩ := c3.get q xs' d1
            have e1 := a2.cells hg q y h1
            have e2 := c2.cells hg q y' d2
            rw [e1] at e2
            cases e2
            exact d2.symm
        subst hlen
        exact ⟨u, by rw [← hH.len]; simp, hu⟩
    · obtain ⟨d1, d2, d3, d4⟩ := c5 k hk
      exact ⟨d1, d2, fun r' row'' y e1 e2 => d3 r' row'' y (old e1) (get (rowAt_lt (old e1)) e2), fun r' row'' y e0 e1 e2 => d4 r' row'' y e0 (lold e1) (get (llAt_lt (lold e1)) e2)⟩

theorem does_loadPl (hT : TOK P T) {o : Oper} {s : St} {k : AV → Hp → R} {out : Out} {t r i : Nat} {x : Operand} (hop : o.op = .load t x) (hx : evO s x = some (.pl r i)) (h : opK T false (.load t x) s k = some out) :
    ∃ av H', k av H' = some out ∧ Does P o s av H' := by
  unfold opK at h
  dsimp only at h
  rw [hx] at h
  simp only [cond_false] at h
  split at h
  · rename_i e row he hrow
    split at h
    · rename_i z hz
      split at h
      · rename_i xs hi
        refine ⟨_, _, h, ?_⟩
        intro act w Pr ρ cargs hp hH ho
        obtain ⟨vr, g, hr1, hr2, hr3⟩ := ho.fv x (by rw [hop]; simp [Op.operands]) _ hx
        obtain ⟨u, hu, hH'⟩ := hH.alias hrow hz hi hr1 hr2
        have hagg : aggD (.slice e) = false := rfl
        have hrun : (Instr.loadAt t (act.eval x)).run P w = .ok u w := by
          rw [hr3]
          simp [Instr.loadAt, Instr.sureAddr, loadVar, isAgg_run (hT.sl t e he) hagg, hu]
        refine yields_value (x := Instr.loadAt t (act.eval x)) (by rw [exec_eq hop]; rfl) hrun ⟨ρ ++ [u], old_push _, ?_, hH', Keep.refl _ _⟩
        show (ρ ++ [u])[s.H.length]? = some u
        rw [← hH.len]; simp
      · cases h
    · cases h
  · cases h

theorem does_store (hT : TOK P T) {o : Oper} {s : St} {k : AV → Hp → R} {out : Out} {t : Nat} {x y : Operand} (hop : o.op = .store t x y) (h : opK T false (.store t x y) s k = some out) :
    ∃ av H', k av H' = some out ∧ Does P o s av H' := by
  unfold opK at h
  simp only [cond_false] at h
  split at h
  · rename_i p v hp hv
    unfold storeK at h
    split at h
    · rename_i q r e hq hb
      split at h
      · rename_i row hrow
        split at h
        · rename_i a ha
          split at h
          · rename_i b hset
            cases hc : (Nat.beq e.cells.length q.sz && Nat.beq p.sz row.v.k.sz && decide (p.j < row.v.k.sz)) with
            | false => rw [hc] at h; cases h
            | true =>
              rw [hc] at h
              simp only [Bool.and_eq_true, decide_eq_true_eq] at hc
              have hc1 : e.cells.length = q.sz := Nat.eq_of_beq_eq_true hc.1.1
              have hc2 : p.sz = row.v.k.sz := Nat.eq_of_beq_eq_true hc.1.2
              have hc3 : p.j < row.v.k.sz := hc.2
              refine ⟨_, _, h, ?_⟩
              intro act w Pr ρ cargs hpr hH ho
              obtain ⟨i, z, d, hi, hsz, hz, hze, hby, _⟩ := hT.ek t q hq
              have hx := ho.fv x (by rw [hop]; simp [Op.operands]) _ hp
              have hy : ElR e (act.eval y) := ho.fv y (by rw [hop]; simp [Op.operands]) _ hv
              obtain ⟨us, hu1, hu2⟩ := ElR.cells hy
              have hul : us.length = q.sz := by rw [← hu2.length]; exact hc1
              -- the pointer
              have hx2 : PtR w Pr ρ p (act.eval x) := hx
              unfold PtR at hx2
              rw [hb] at hx2
              dsimp only at hx2
              obtain ⟨vr, g, hr1, hr2, hr3⟩ := hx2
              obtain ⟨vr', hr1', vs, hown, hvs, hnp⟩ := hH.row r row hrow
              rw [hr1] at hr1'
              cases hr1'
              have hlen : vs.length = row.v.xs.length * row.v.k.sz := hown.1
              have hilt : p.i < row.v.xs.length := by
                rcases Nat.lt_or_ge p.i row.v.xs.length with h' | h'
                · exact h'
                · rw [List.getElem?_eq_none h'] at ha; cases ha
              have hle : p.i * row.v.k.sz + row.v.k.sz ≤ vs.length := by
                rw [hlen]
                calc p.i * row.v.k.sz + row.v.k.sz = (p.i + 1) * row.v.k.sz := by rw [Nat.add_mul]; omega
                  _ ≤ row.v.xs.length * row.v.k.sz := Nat.mul_le_mul_right _ hilt
              -- how many cells are written, and what they are then
              have hnew : p.i * p.sz + p.j + us.length ≤ vs.length ∧ AllR SCR (Vec.cells ⟨row.v.k, row.v.xs.set p.i b⟩) (vs.take (p.i * p.sz + p.j) ++ us ++ vs.drop (p.i * p.sz + p.j + us.length)) := by
                rw [hc2]
                rcases setElt_ok hset with ⟨hw, hfb⟩ | ⟨hw, c, rfl, hfb⟩
                · rw [Bool.and_eq_true] at hw
                  have hqk : q = row.v.k := of_decide_eq_true hw.1
                  have hj : p.j = 0 := Nat.eq_of_beq_eq_true hw.2
                  have hus : us.length = row.v.k.sz := by rw [hul, hqk]
                  rw [hj, Nat.add_zero, hus]
                  refine ⟨hle, ?_⟩
                  unfold Vec.cells
                  rw [flat_set _ _ row.v.k.len_f row.v.xs p.i b hilt]
                  have : AllR SCR (row.v.k.f b).cells us := by rw [hfb]; exact hu2
                  exact ((hvs.take _).append this).append (hvs.drop _)
                · obtain ⟨u, rfl, hcu⟩ := AllR.one (show AllR SCR [c] us from hu2)
                  refine ⟨by simp; omega, ?_⟩
                  unfold Vec.cells
                  rw [flat_set1 _ _ row.v.k.len_f row.v.xs p.i p.j a b c ha hfb hc3]
                  have hset2 : vs.take (p.i * row.v.k.sz + p.j) ++ [u] ++ vs.drop (p.i * row.v.k.sz + p.j + [u].length) = vs.set (p.i * row.v.k.sz + p.j) u := by
                    rw [List.set_eq_take_append_cons_drop, if_pos (by omega)]
                    simp
                  rw [hset2]
                  exact hvs.set _ hcu
              obtain ⟨w', hst, hown', hoth, hos, htape, hout, hsize⟩ := write_row (P := P) hown hr2 (p.i * p.sz + p.j) us hnew.1 (fun u hu => by
                obtain ⟨j, hj⟩ := List.getElem?_of_mem hu
                obtain ⟨c, _, hcu⟩ := hu2.getR j u hj
                exact hcu.one)
              unfold Yields
              rw [exec_eq hop]
              have hrun : (Instr.storeAt t (act.eval x) (act.eval y)).run P w = .ok () w' := by
                rw [hr3]
                simp [Instr.storeAt, Instr.sureAddr, storeVar, hu1, sizeOf, typeInfo, hi, hsz, hul, hst]
              simp only [execOp, Sem.run_bind, hrun, Result.andThen_ok, Sem.run_pure]
              refine ⟨ρ, fun _ _ h => h, rfl, ?_, ⟨hos, htape, hout, by omega, fun j hj => hoth j (fun e => hnp g hr2 (e ▸ hj))⟩⟩
              refine ⟨by rw [List.length_set]; exact hH.len, fun r' row' hrow' => ?_, fun r1 r2 row1 row2 v1 v2 g' hne h1 h2 h3 h4 h5 => ?_, hH.ll.set (by omega) (fun row' e => by cases e; exact (rowAt_no hrow).1) (fun _ _ => ⟨row, hrow⟩) fun g' _ hg' => hoth g' fun e => hg' r row vr hrow hr1 (by rw [e]; exact hr2)⟩
              · rcases rowAt_set hrow' with ⟨hne, hold⟩ | ⟨rfl, hnew'⟩
                · obtain ⟨v', hv', hrr⟩ := hH.row r' row' hold
                  refine ⟨v', hv', hrr.keep fun g' hg' => hoth g' ?_⟩
                  intro e
                  subst e
                  exact hH.apart r r' row row' vr v' _ hne hrow hold hr1 hv' hr2 hg'
                · cases hnew'
                  refine ⟨vr, hr1, _, ?_, hnew.2, hnp⟩
                  have : (row.v.xs.set p.i b).length = row.v.xs.length := by simp
                  dsimp only
                  rw [this]
                  exact hown'
              · have key : ∀ {r' : Nat} {row' : Row}, rowAt (List.set s.H r (some ⟨row.e, ⟨row.v.k, row.v.xs.set p.i b⟩⟩)) r' = some row' → ∃ row'', rowAt s.H r' = some row'' := by
                  intro r' row' h
                  rcases rowAt_set h with ⟨_, h⟩ | ⟨rfl, _⟩
                  · exact ⟨_, h⟩
                  · exact ⟨_, hrow⟩
                obtain ⟨row1', h1'⟩ := key h1
                obtain ⟨row2', h2'⟩ := key h2
                exact hH.apart r1 r2 row1' row2' v1 v2 g' hne h1' h2' h3 h4 h5
          · cases h
        · cases h
      · cases h
    · cases h
  · rename_i r i r2 hx hy
    obtain ⟨H', h1, h2⟩ := does_put hT hop hx hy h
    exact ⟨_, H', h1, h2⟩
  · cases h

end
end Go.Sm

