/- One operation: what the machine says, the model does. -/
import Derived.Test.YtngcejakoaoojaaA7
import Derived.Lib.SliceRun
namespace Go.Sm
open Go Go.RowKit

section
variable {P : Program} {T : TT}

theorem exec_eq {o : Oper} {op : Op} (h : o.op = op) (ρ : Operand → Value) : execOp ρ o = execOp ρ { o with op := op } := by
  rw [← h]

theorem cells_sub {w : World} {a : Addr} {vec : Vec} {l n : Nat} (h : CellsR w a vec.cells) : CellsR w (a.add (l * vec.k.sz)) (Vec.cells ⟨vec.k, (vec.xs.drop l).take n⟩) := by
  intro i c hi
  -- which element, which cell of it
  have hsz := vec.k.sz_pos
  have hdm : i = (i / vec.k.sz) * vec.k.sz + i % vec.k.sz := by rw [Nat.mul_comm]; exact (Nat.div_add_mod i vec.k.sz).symm
  have hmod : i % vec.k.sz < vec.k.sz := Nat.mod_lt _ hsz
  have hlt : i < (Vec.cells ⟨vec.k, (vec.xs.drop l).take n⟩).length := by
    rcases Nat.lt_or_ge i (Vec.cells ⟨vec.k, (vec.xs.drop l).take n⟩).length with h' | h'
    · exact h'
    · rw [List.getElem?_eq_none h'] at hi; cases hi
  rw [Vec.len_cells] at hlt
  dsimp only at hlt
  have hq : i / vec.k.sz < ((vec.xs.drop l).take n).length := (Nat.div_lt_iff_lt_mul hsz).2 hlt
  obtain ⟨x, hx⟩ : ∃ x, ((vec.xs.drop l).take n)[i / vec.k.sz]? = some x := ⟨_, List.getElem?_eq_getElem hq⟩
  have h1 := Vec.get_cells ⟨vec.k, (vec.xs.drop l).take n⟩ (i / vec.k.sz) (i % vec.k.sz) x hx hmod
  dsimp only at h1
  rw [← hdm] at h1
  have hx2 : vec.xs[l + i / vec.k.sz]? = some x := by
    rw [List.getElem?_take] at hx
    split at hx
    · rwa [List.getElem?_drop] at hx
    · cases hx
  have h2 := vec.get_cells (l + i / vec.k.sz) (i % vec.k.sz) x hx2 hmod
  have e : (l + i / vec.k.sz) * vec.k.sz + i % vec.k.sz = l * vec.k.sz + i := by rw [Nat.add_mul]; omega
  rw [e] at h2
  rw [hi] at h1
  obtain ⟨u, hu, hs⟩ := h (l * vec.k.sz + i) c (h2.trans h1.symm)
  exact ⟨u, by rw [add_add]; exact hu, hs⟩

theorem boundO_ok {s : St} {x : Option Operand} {d n : Int} (h : boundO s x d = some n) {Pr : Nat → Prop} {w : World} {ρ cargs : List Value} {a : Act}
    (hm : ∀ y, x = some y → ∀ v, evO s y = some v → FVR w Pr ρ cargs v (a.eval y)) : (x = none ∧ n = d) ∨ ∃ y q, x = some y ∧ a.eval y = .int q n := by
  cases x with
  | none => cases h; exact .inl ⟨rfl, rfl⟩
  | some y =>
    unfold boundO at h
    dsimp only at h
    split at h
    · rename_i q m hm2
      cases h
      exact .inr ⟨y, q, rfl, hm y rfl _ hm2⟩
    · cases h

/-- The slice of a slice that is only read. -/
theorem sliceAt_ok (hT : TOK P T) {w : World} {Pr : Nat → Prop} {t e : Nat} {kd : K} {v : Value} {vec : Vec} {lo hi : Option Value} {l h : Int} (ht : T.sl t = some e) (he : T.ek e = some kd) (hk : kd = vec.k)
    (hv : VwR w Pr v vec) (hlo : (lo = none ∧ l = 0) ∨ ∃ q, lo = some (.int q l)) (hhi : (hi = none ∧ h = (vec.xs.length : Int)) ∨ ∃ q, hi = some (.int q h))
    (h0 : 0 ≤ l) (h1 : l ≤ h) (h2 : h ≤ (vec.xs.length : Int)) :
    ∃ u, (Instr.sliceAt t v lo hi none).run P w = .ok u w ∧ VwR w Pr u ⟨vec.k, (vec.xs.drop l.toNat).take (h.toNat - l.toNat)⟩ := by
  obtain ⟨i, z, d, hinfo, hsz, _⟩ := hT.ek e kd he
  subst hk
  have hu := hT.sl t e ht
  have key : ∀ (a : Option Addr) (cap : Nat), vec.xs.length ≤ cap → v = .slice a vec.xs.length cap →
      (Instr.sliceAt t v lo hi none).run P w = .ok (.slice (if cap = l.toNat then a else a.map (·.add (l.toNat * vec.k.sz))) (h.toNat - l.toNat) (cap - l.toNat)) w := by
    rintro a cap hcap rfl
    have hbh : ∀ q, 0 ≤ h ∧ h ≤ (cap : Int) ∧ q = q := fun _ => ⟨by omega, by omega, rfl⟩
    have h3 : 0 ≤ h := by omega
    have h4 : h ≤ (cap : Int) := by omega
    have h5 : l ≤ max h 0 := by omega
    have h6 : l ≤ ((vec.xs.length : Nat) : Int) := by omega
    rcases hlo with ⟨rfl, rfl⟩ | ⟨q1, rfl⟩ <;> rcases hhi with ⟨rfl, rfl⟩ | ⟨q2, rfl⟩ <;>
      simp [Instr.sliceAt, run_underlying hu, Instr.slice, Instr.sliceBounds, Instr.sliceBound, asIntOf, sizeOf, typeInfo, hinfo, hsz, h0, h3, h4, h5, h6]
  rcases hv with ⟨rfl, hx⟩ | ⟨a, cap, rfl, hcap, hpr, hcells⟩
  · rw [hx] at h2
    simp at h2
    have hl : l = 0 := by omega
    have hh : h = 0 := by omega
    subst hl hh
    refine ⟨.slice none 0 0, ?_, .inl ⟨rfl, by simp⟩⟩
    have := key none 0 (by rw [hx]; simp) (by rw [hx]; rfl)
    simpa using this
  · refine ⟨_, key (some a) cap hcap rfl, .inr ⟨if cap = l.toNat then a else a.add (l.toNat * vec.k.sz), cap - l.toNat, ?_, ?_, ?_, ?_⟩⟩
    · split
      · simp; omega
      · simp; omega
    · simp; omega
    · rcases hpr with hpr | hpr
      · exact .inl (by simp [hpr])
      · refine .inr ?_
        split
        · exact hpr
        · rw [add_block]; exact hpr
    · split
      · rename_i hc
        -- nothing is left
        have hz : h.toNat - l.toNat = 0 := by omega
        rw [hz]
        intro i c hi
        simp [Vec.cells] at hi
      · exact cells_sub hcells

theorem Opd.av {w : World} {Pr : Nat → Prop} {ρ cargs : List Value} {s : St} {a : Act} {op : Op} (ho : Opd Pr w ρ cargs s a op) {x : Operand} (hx : x ∈ op.operands) {v : AV} (h : evA s x = some v) : AVR w Pr ρ cargs v (a.eval x) := by
  unfold evA at h
  split at h
  · rename_i t
    split at h
    · rename_i u hu
      cases h
      exact ho.fv (.tmp t) hx u (by unfold evO; dsimp only; rw [hu])
    · rename_i xs hxs
      cases h
      exact ho.tup t hx xs hxs
    · cases h
  · split at h
    · rename_i u hu
      cases h
      exact ho.fv _ hx u hu
    · cases h

theorem opK_quiet (hT : TOK P T) {o : Oper} {s : St} {k : AV → Hp → R} {out : Out} (h : opK T true o.op s k = some out) : ∃ av, k av s.H = some out ∧ Quiet P o s av := by
  cases hop : o.op with
  | move x =>
    rw [hop] at h
    unfold opK at h
    dsimp only at h
    split at h
    · rename_i v hv
      refine ⟨_, h, ?_⟩
      intro a w Pr ρ cargs hp hH ho
      unfold Yields
      rw [exec_eq hop]
      exact ⟨ho.av (by rw [hop]; simp [Op.operands]) hv, Same.refl w⟩
    · cases h
  | assign x =>
    rw [hop] at h
    unfold opK at h
    dsimp only at h
    split at h
    · rename_i v hv
      refine ⟨_, h, ?_⟩
      intro a w Pr ρ cargs hp hH ho
      unfold Yields
      rw [exec_eq hop]
      exact ⟨ho.fv x (by rw [hop]; simp [Op.operands]) v hv, Same.refl w⟩
    · cases h
  | pick c x y =>
    rw [hop] at h
    unfold opK at h
    dsimp only at h
    split at h
    · rename_i t ht
      cases t with
      | true =>
        simp only [cond_true] at h
        split at h
        · rename_i v hv
          refine ⟨_, h, ?_⟩
          intro a w Pr ρ cargs hp hH ho
          have hc : a.eval c = .bool true := ho.fv c (by rw [hop]; simp [Op.operands]) _ ht
          refine yields_value (x := (do pure (if ← asBool (a.eval c) then a.eval x else a.eval y))) (w' := w) (v := a.eval x) (by rw [exec_eq hop]; simp [execOp]) (by simp [hc, asBool]) ?_
          exact ⟨ho.fv x (by rw [hop]; simp [Op.operands]) v hv, Same.refl w⟩
        · cases h
      | false =>
        simp only [cond_false] at h
        split at h
        · rename_i v hv
          refine ⟨_, h, ?_⟩
          intro a w Pr ρ cargs hp hH ho
          have hc : a.eval c = .bool false := ho.fv c (by rw [hop]; simp [Op.operands]) _ ht
          refine yields_value (x := (do pure (if ← asBool (a.eval c) then a.eval x else a.eval y))) (w' := w) (v := a.eval y) (by rw [exec_eq hop]; simp [execOp]) (by simp [hc, asBool]) ?_
          exact ⟨ho.fv y (by rw [hop]; simp [Op.operands]) v hv, Same.refl w⟩
        · cases h
    · cases h
  | binOp b t x y t' =>
    rw [hop] at h
    unfold opK at h
    dsimp only at h
    split at h
    · rename_i c d hc hd
      obtain ⟨r, hr, hb⟩ := binK_ok h
      refine ⟨_, hr, quiet_fv ?_⟩
      intro a w Pr ρ cargs hp hH ho
      refine ⟨_, by rw [exec_eq hop]; rfl, hb P w t x y _ _ ?_ (ho.fv x (by rw [hop]; simp [Op.operands]) _ hc) (ho.fv y (by rw [hop]; simp [Op.operands]) _ hd)⟩
      intro hbool
      cases hn : T.nk t with
      | none => rw [hn] at hbool; cases hbool
      | some n =>
        rw [hn] at hbool
        cases n <;> first | (cases hbool; done) | exact hT.nk t _ hn
    · rename_i o' vec hc hd
      split at h
      · rename_i e he
        cases hb : Nat.ble 1 vec.xs.length with
        | false => rw [hb] at h; cases h
        | true =>
          rw [hb] at h
          have hl := Nat.le_of_ble_eq_true hb
          refine ⟨_, h, quiet_fv ?_⟩
          intro a w Pr ρ cargs hp hH ho
          have h1 := ho.fv x (by rw [hop]; simp [Op.operands]) _ hc
          have h2 : a.eval y = .slice none 0 0 := ho.fv y (by rw [hop]; simp [Op.operands]) _ hd
          have hu := hT.sl t e he
          refine ⟨_, by rw [exec_eq hop]; rfl, gives_ok (v := .bool false) ?_ rfl⟩
          rcases h1.1 with ⟨_, h4⟩ | ⟨ad, cap, h3, _⟩
          · rw [h4] at hl; simp at hl
          · rw [h2, h3, eqGuard_at_slice]
            simp only [Sem.run_bind, Sem.run_pure, Result.andThen_ok]
            rw [Go.Lib.run_eql_slice_nil w t e (some ad) _ _ 0 0 hu]
            rfl
      · cases h
    · cases h
  | unOp b t x =>
    rw [hop] at h
    unfold opK at h
    dsimp only at h
    split at h
    · rename_i c hc
      obtain ⟨r, hr, hb⟩ := unK_ok h
      refine ⟨_, hr, quiet_fv ?_⟩
      intro a w Pr ρ cargs hp hH ho
      exact ⟨_, by rw [exec_eq hop]; rfl, hb P w _ (ho.fv x (by rw [hop]; simp [Op.operands]) _ hc)⟩
    · cases h
  | convert src d x =>
    rw [hop] at h
    unfold opK at h
    dsimp only at h
    split at h
    · rename_i n0 n c hn0 hn hc
      obtain ⟨r, hr, hb⟩ := convK_ok h
      refine ⟨_, hr, quiet_fv ?_⟩
      intro a w Pr ρ cargs hp hH ho
      exact ⟨_, by rw [exec_eq hop]; rfl, hb P w src d _ _ (hT.nk _ _ hn0) (hT.nk _ _ hn) (ho.fv x (by rw [hop]; simp [Op.operands]) _ hc)⟩
    · cases h
  | nilCheck x =>
    rw [hop] at h
    unfold opK at h
    dsimp only at h
    split at h
    · rename_i p hc
      refine ⟨_, h, ?_⟩
      intro a w Pr ρ cargs hp hH ho
      have hv := ho.fv x (by rw [hop]; simp [Op.operands]) _ hc
      have hpt : ∃ b, a.eval x = .pointer (some b) := by
        obtain ⟨b, hb, _⟩ := PtR.add (o := 0) (show PtR w Pr ρ p (a.eval x) from hv)
        exact ⟨b, hb⟩
      obtain ⟨b, hb⟩ := hpt
      unfold Yields
      rw [exec_eq hop]
      simp only [execOp, hb, Sem.run_pure]
      exact ⟨by rw [← hb]; exact hv, Same.refl w⟩
    · rename_i f caps hc
      refine ⟨_, h, ?_⟩
      intro a w Pr ρ cargs hp hH ho
      have hv := ho.fv x (by rw [hop]; simp [Op.operands]) _ hc
      obtain ⟨cs, hb, hcs⟩ := hv
      unfold Yields
      rw [exec_eq hop]
      simp only [execOp, hb, Sem.run_pure]
      exact ⟨⟨cs, rfl, hcs⟩, Same.refl w⟩
    · cases h
  | load t x =>
    rw [hop] at h
    unfold opK at h
    dsimp only at h
    split at h
    · rename_i p hc
      obtain ⟨r, hr, hl⟩ := loadK_ok hT h
      refine ⟨_, hr, quiet_fv ?_⟩
      intro a w Pr ρ cargs hp hH ho
      obtain ⟨u, hu, hx⟩ := hl w Pr ρ cargs _ hp hH (ho.fv x (by rw [hop]; simp [Op.operands]) _ hc)
      exact ⟨_, by rw [exec_eq hop]; rfl, gives_ok hu hx⟩
    · cases h
  | fieldAddr t x f =>
    rw [hop] at h
    unfold opK at h
    dsimp only at h
    split at h
    · rename_i p off hc hoff
      refine ⟨_, h, quiet_fv ?_⟩
      intro a w Pr ρ cargs hp hH ho
      obtain ⟨b, hb, hb2⟩ := PtR.add (o := off) (show PtR w Pr ρ p (a.eval x) from ho.fv x (by rw [hop]; simp [Op.operands]) _ hc)
      exact ⟨_, by rw [exec_eq hop]; rfl, gives_ok (by rw [hb]; exact fieldAddr_ok hT hoff b) hb2⟩
    · cases h
  | indexAddr t x i =>
    rw [hop] at h
    unfold opK at h
    dsimp only at h
    split at h
    · rename_i e v n he hv hn
      split at h
      · rename_i kd b vec q m hkd hsl
        cases hc : (decide (0 ≤ m ∧ m < (vec.xs.length : Int)) && decide (kd = vec.k)) with
        | false => rw [hc] at h; cases h
        | true =>
          rw [hc] at h
          rw [Bool.and_eq_true, decide_eq_true_eq, decide_eq_true_eq] at hc
          refine ⟨_, h, quiet_fv ?_⟩
          intro a w Pr ρ cargs hp hH ho
          have hi : a.eval i = .int q m := ho.fv i (by rw [hop]; simp [Op.operands]) _ hn
          obtain ⟨u, hu, hx⟩ := indexAddr_ok hT hH (q := q) he hkd hc.2 (ho.fv x (by rw [hop]; simp [Op.operands]) _ hv) hsl hc.1.1 hc.1.2
          exact ⟨_, by rw [exec_eq hop]; rfl, gives_ok (by rw [hi]; exact hu) hx⟩
      · cases h
    · cases h
  | extract x i =>
    rw [hop] at h
    unfold opK at h
    dsimp only at h
    split at h
    · rename_i t
      split at h
      · rename_i xs hxs
        split at h
        · rename_i v hv
          refine ⟨_, h, quiet_fv ?_⟩
          intro a w Pr ρ cargs hp hH ho
          obtain ⟨vs, h1, h2⟩ := ho.tup t (by rw [hop]; simp [Op.operands]) xs hxs
          obtain ⟨u, hu, hr⟩ := h2.get i v hv
          exact ⟨_, by rw [exec_eq hop]; rfl, gives_ok (v := u) (by rw [h1]; simp [Instr.extract, hu]) hr⟩
        · cases h
      · cases h
    · cases h
  | field t x f =>
    rw [hop] at h
    unfold opK at h
    dsimp only at h
    split at h
    · rename_i cs off hc hoff
      split at h
      · rename_i c hcc
        refine ⟨_, h, quiet_fv ?_⟩
        intro a w Pr ρ cargs hp hH ho
        obtain ⟨vs, h1, h2⟩ := ho.fv x (by rw [hop]; simp [Op.operands]) _ hc
        obtain ⟨u, hu, hr⟩ := h2.get off c hcc
        obtain ⟨fs, fd, i, d, f1, f2, f3, f4, f5, f6, f7⟩ := hT.fo t f off hoff
        refine ⟨_, by rw [exec_eq hop]; rfl, gives_ok (v := u) ?_ hr⟩
        rw [h1]
        simp [Instr.field, run_underlying f1, f2, asAgg, part, isAgg_run f6 f7, f3, hu]
      · cases h
    · cases h
  | slice t x lo hi mx =>
    rw [hop] at h
    unfold opK at h
    cases mx with
    | some m => cases h
    | none =>
      dsimp only at h
      split at h
      · rename_i e og vec he hv
        split at h
        · rename_i kd l hh hkd hl hhi
          cases hc : (decide (0 ≤ l ∧ l ≤ hh ∧ hh ≤ (vec.xs.length : Int)) && decide (kd = vec.k)) with
          | false => rw [hc] at h; cases h
          | true =>
            rw [hc] at h
            rw [Bool.and_eq_true, decide_eq_true_eq, decide_eq_true_eq] at hc
            refine ⟨_, h, quiet_fv ?_⟩
            intro a w Pr ρ cargs hp hH ho
            have hx := ho.fv x (by rw [hop]; simp [Op.operands]) _ hv
            have hb1 := boundO_ok hl (a := a) (w := w) (Pr := Pr) (ρ := ρ) (cargs := cargs) fun y hy v hv => ho.fv y (by rw [hop]; simp [Op.operands, hy]) v hv
            have hb2 := boundO_ok hhi (a := a) (w := w) (Pr := Pr) (ρ := ρ) (cargs := cargs) fun y hy v hv => ho.fv y (by rw [hop]; simp [Op.operands, hy]) v hv
            have hb1' : (lo.map a.eval = none ∧ l = 0) ∨ ∃ q, lo.map a.eval = some (.int q l) := by
              rcases hb1 with ⟨rfl, h⟩ | ⟨y, q, rfl, h⟩
              · exact .inl ⟨rfl, h⟩
              · exact .inr ⟨q, by rw [Option.map_some, h]⟩
            have hb2' : (hi.map a.eval = none ∧ hh = (vec.xs.length : Int)) ∨ ∃ q, hi.map a.eval = some (.int q hh) := by
              rcases hb2 with ⟨rfl, h⟩ | ⟨y, q, rfl, h⟩
              · exact .inl ⟨rfl, h⟩
              · exact .inr ⟨q, by rw [Option.map_some, h]⟩
            obtain ⟨u, hu, hr⟩ := sliceAt_ok hT he hkd hc.2 hx.1 hb1' hb2' hc.1.1 hc.1.2.1 hc.1.2.2
            exact ⟨_, by rw [exec_eq hop]; rfl, gives_ok hu ⟨hr, fun i hi => by cases hi⟩⟩
        · cases h
      · cases h
  | makeFunc fn first captured =>
    rw [hop] at h
    unfold opK at h
    dsimp only at h
    split at h
    · rename_i f xs hf hxs
      split at h
      · rename_i ps hps
        refine ⟨_, h, quiet_fv ?_⟩
        intro a w Pr ρ cargs hp hH ho
        have hall := evAll_mem hxs (Pr := Pr) (w := w) (ρ := ρ) (cargs := cargs) (a := a) fun y hy v hv => ho.fv y (by rw [hop]; simp only [Op.operands]; simp; exact .inr (by simpa using hy)) v hv
        have hpts : AllR (PtR w Pr ρ) ps (captured.toList.map a.eval) := by
          have key : ∀ (xs : List FV) (ps : List PT) (vs : List Value), pts? xs = some ps → AllR (FVR w Pr ρ cargs) xs vs → AllR (PtR w Pr ρ) ps vs := by
            intro xs
            induction xs with
            | nil => intro ps vs h1 h2; simp [pts?] at h1; subst h1; cases vs with
              | nil => trivial
              | cons v vs => exact h2.elim
            | cons x xs ih =>
              intro ps vs h1 h2
              cases vs with
              | nil => exact h2.elim
              | cons v vs =>
                cases x with
                | pt p =>
                  unfold pts? at h1
                  split at h1
                  · rename_i ps' hps'
                    cases h1
                    exact ⟨h2.1, ih _ _ hps' h2.2⟩
                  · cases h1
                | el e => cases h1
                | nil => cases h1
                | vw o v => cases h1
                | own r => cases h1
                | fn f c => cases h1
          exact key xs ps _ hps hall
        refine ⟨Instr.makeFunc (.func f) (first.map a.eval) (captured.map a.eval), by rw [exec_eq hop]; rfl, gives_ok (v := .func (.func f) #[] (captured.toList.map a.eval).toArray) ?_ ⟨_, rfl, hpts⟩⟩
        have h1 : first.map a.eval = #[] := by
          apply Array.ext'
          simp [hf]
        have h2 : captured.map a.eval = (captured.toList.map a.eval).toArray := by apply Array.ext'; simp
        rw [h1, h2]
        rfl
      · cases h
    · cases h
  | build t parts =>
    rw [hop] at h
    unfold opK at h
    dsimp only at h
    split at h
    · rename_i kd ps hkd hps
      split at h
      · rename_i ss hss
        split at h
        · rename_i cs hcs
          cases hagg : kd.agg with
          | false => rw [hagg] at h; cases h
          | true =>
            rw [hagg] at h
            refine ⟨_, h, quiet_fv ?_⟩
            intro a w Pr ρ cargs hp hH ho
            obtain ⟨fs, places, b1, b2, b3⟩ := hT.bd t kd hkd hagg
            obtain ⟨i, z, d, hi, hsz, hz, hze, _⟩ := hT.ek t kd hkd
            obtain ⟨zs, hz1, hz2⟩ := ElR.cells hze
            have hparts := evParts_mem hps (Pr := Pr) (w := w) (ρ := ρ) (cargs := cargs) (a := a) fun p hpm v hv => ho.fv p.2 (by rw [hop]; simp only [Op.operands]; simp; exact ⟨p.1, by simpa using hpm⟩) v hv
            have hsc : AllR (fun (x : Nat × SC) (y : Nat × Value) => x.1 = y.1 ∧ SCR x.2 y.2) ss (parts.toList.map fun p => (p.1, a.eval p.2)) := by
              have key : ∀ (ps : List (Nat × FV)) (ss : List (Nat × SC)) (vs : List (Nat × Value)), scParts ps = some ss → AllR (fun (x : Nat × FV) (y : Nat × Value) => x.1 = y.1 ∧ FVR w Pr ρ cargs x.2 y.2) ps vs →
                  AllR (fun (x : Nat × SC) (y : Nat × Value) => x.1 = y.1 ∧ SCR x.2 y.2) ss vs := by
                intro ps
                induction ps with
                | nil => intro ss vs h1 h2; simp [scParts] at h1; subst h1; cases vs with
                  | nil => trivial
                  | cons v vs => exact h2.elim
                | cons p ps ih =>
                  intro ss vs h1 h2
                  cases vs with
                  | nil => exact h2.elim
                  | cons v vs =>
                    obtain ⟨j, x⟩ := p
                    cases x with
                    | el e =>
                      cases e with
                      | sc c =>
                        unfold scParts at h1
                        split at h1
                        · rename_i ss' hss'
                          cases h1
                          exact ⟨h2.1, ih _ _ hss' h2.2⟩
                        · cases h1
                      | ag cs => cases h1
                    | nil => cases h1
                    | vw o v => cases h1
                    | own r => cases h1
                    | pt p => cases h1
                    | fn f c => cases h1
              exact key ps ss _ hss hparts
            obtain ⟨us', hf1, hf2⟩ := fill_ok (T := T) (t := t) (sz := kd.sz) b3 ss _ _ z.cells cs hcs hsc (by rw [hz1]; exact hz2) (by rw [hz1, List.size_toArray, ← hz2.length, K.len_f])
            refine ⟨Instr.build t (parts.map fun p => (p.1, a.eval p.2)), by rw [exec_eq hop]; rfl, gives_ok (v := .agg us') ?_ ⟨us'.toList, by simp, hf2⟩⟩
            have hpm : (parts.map fun p => (p.1, a.eval p.2)).toList = parts.toList.map fun p => (p.1, a.eval p.2) := by simp
            simp only [Instr.build, Sem.run_bind, zeroValue, typeInfo, run_program, Result.andThen_ok, hi, Sem.run_pure, hz, run_underlying b1, b2, hpm, hf1]
        · cases h
      · cases h
    · cases h
  | call c =>
    obtain ⟨callee, args, ts⟩ := c
    rw [hop] at h
    cases callee with
    | value x => exact quiet_call hT hop h
    | builtin b => exact quiet_builtin hT hop true (.inl rfl) h
    | invoke r m => unfold opK at h; cases h
  | store t a x => rw [hop] at h; unfold opK at h; cases h
  | box t x => rw [hop] at h; unfold opK at h; cases h
  | alloc t => rw [hop] at h; unfold opK at h; cases h
  | buildSlice t n ps => rw [hop] at h; unfold opK at h; cases h
  | makeSlice t l c => rw [hop] at h; unfold opK at h; cases h
  | _ => rw [hop] at h; unfold opK at h; cases h

end
end Go.Sm
