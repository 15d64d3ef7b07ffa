/- One operation that leaves memory alone: what the machine says, the model does, in whatever order. -/
import Derived.Test.YtngcejakoaoojaaA6
namespace Go.Sm
open Go Go.RowKit

section
variable {P : Program} {T : TT}

theorem scs_of {s : St} {op : Op} {x : Operand} {c : SC} {Pr : Nat → Prop} {w : World} {ρ cargs : List Value} {a : Act} (ho : Opd Pr w ρ cargs s a op) (hx : x ∈ op.operands) (hv : evO s x = some (.el (.sc c))) : SCR c (a.eval x) := ho.fv x hx _ hv

theorem FVR.same {w w' : World} {Pr : Nat → Prop} {ρ cargs : List Value} {x : FV} {v : Value} (h : FVR w Pr ρ cargs x v) (hs : Same w w') (hp : ∀ k, Pr k → k < w.heap.size) : FVR w' Pr ρ cargs x v :=
  h.keep (fun k hk => hs.block k (hp k hk)) (fun _ _ h => h)
theorem AVR.same {w w' : World} {Pr : Nat → Prop} {ρ cargs : List Value} {x : AV} {v : Value} (h : AVR w Pr ρ cargs x v) (hs : Same w w') (hp : ∀ k, Pr k → k < w.heap.size) : AVR w' Pr ρ cargs x v :=
  h.keep (fun k hk => hs.block k (hp k hk)) (fun _ _ h => h)

/-- What is asked of a quiet operation: in every world that has what was there, its value fits and what was there stays. -/
def Quiet (P : Program) (o : Oper) (s : St) (av : AV) : Prop :=
  ∀ (a : Act) (w : World) (Pr : Nat → Prop) (ρ cargs : List Value), (∀ k, Pr k → k < w.heap.size) → HR w Pr ρ s.H → Opd Pr w ρ cargs s a o.op →
    Yields P o a w fun v w' => AVR w Pr ρ cargs av v ∧ Same w w'

theorem quiet_fv {o : Oper} {s : St} {x : FV}
    (h : ∀ (a : Act) (w : World) (Pr : Nat → Prop) (ρ cargs : List Value), (∀ k, Pr k → k < w.heap.size) → HR w Pr ρ s.H → Opd Pr w ρ cargs s a o.op →
      ∃ X : Sem Value, execOp a.eval o = (do pure (.value (← X))) ∧ Gives P w X (FVR w Pr ρ cargs x)) : Quiet P o s (.fv x) := by
  intro a w Pr ρ cargs hp hH ho
  obtain ⟨X, h1, h2⟩ := h a w Pr ρ cargs hp hH ho
  exact (yields_gives h1 h2).mono fun v w' ⟨h3, h4⟩ => ⟨h3, h4⟩

theorem gives_ok {w : World} {X : Sem Value} {v : Value} {Φ : Value → Prop} (h : X.run P w = .ok v w) (hv : Φ v) : Gives P w X Φ := ⟨v, w, h, hv, Same.refl w⟩

theorem evAll_mem {s : St} : ∀ {xs : List Operand} {vs : List FV}, evAll s xs = some vs → ∀ {Pr : Nat → Prop} {w : World} {ρ cargs : List Value} {a : Act}, (∀ x ∈ xs, ∀ v, evO s x = some v → FVR w Pr ρ cargs v (a.eval x)) → AllR (FVR w Pr ρ cargs) vs (xs.map a.eval)
  | [], vs, h, _, _, _, _, _, _ => by simp [evAll] at h; subst h; trivial
  | x :: xs, vs, h, Pr, w, ρ, cargs, a, hm => by
    unfold evAll at h
    split at h
    · rename_i y ys hy hys
      cases h
      exact ⟨hm x (by simp) y hy, evAll_mem hys fun z hz => hm z (by simp [hz])⟩
    · cases h

theorem evParts_mem {s : St} : ∀ {ps : List (Nat × Operand)} {vs : List (Nat × FV)}, evParts s ps = some vs → ∀ {Pr : Nat → Prop} {w : World} {ρ cargs : List Value} {a : Act}, (∀ p ∈ ps, ∀ v, evO s p.2 = some v → FVR w Pr ρ cargs v (a.eval p.2)) →
    AllR (fun (x : Nat × FV) (y : Nat × Value) => x.1 = y.1 ∧ FVR w Pr ρ cargs x.2 y.2) vs (ps.map fun p => (p.1, a.eval p.2))
  | [], vs, h, _, _, _, _, _, _ => by simp [evParts] at h; subst h; trivial
  | (i, x) :: ps, vs, h, Pr, w, ρ, cargs, a, hm => by
    unfold evParts at h
    split at h
    · rename_i y ys hy hys
      cases h
      exact ⟨⟨rfl, hm (i, x) (by simp) y hy⟩, evParts_mem hys fun z hz => hm z (by simp [hz])⟩
    · cases h

/-- The built-ins that only compute. -/
theorem AllR.one {α β : Type} {R : α → β → Prop} {a : α} {bs : List β} (h : AllR R [a] bs) : ∃ b, bs = [b] ∧ R a b := by
  match bs, h with
  | [b], h => exact ⟨b, rfl, h.1⟩
theorem AllR.two {α β : Type} {R : α → β → Prop} {a a' : α} {bs : List β} (h : AllR R [a, a'] bs) : ∃ b b', bs = [b, b'] ∧ R a b ∧ R a' b' := by
  match bs, h with
  | [b, b'], h => exact ⟨b, b', rfl, h.1, h.2.1⟩

theorem operands_binOp {o : BinOp} {t t' : Nat} {x y : Operand} : x ∈ (Op.binOp o t x y t').operands ∧ y ∈ (Op.binOp o t x y t').operands := by simp [Op.operands]

theorem foldl_set (off : Nat) : ∀ (vs : List Value) (n : Nat) (cells : Array Value), off + n + vs.length ≤ cells.size →
    ((vs.zipIdx n).foldl (fun (cs : Array Value) (x : Value × Nat) => cs.setIfInBounds (off + x.2) x.1) cells).toList = cells.toList.take (off + n) ++ vs ++ cells.toList.drop (off + n + vs.length)
  | [], n, cells, _ => by simp
  | v :: vs, n, cells, h => by
    have ih := foldl_set off vs (n + 1) (cells.setIfInBounds (off + n) v) (by simp at h ⊢; omega)
    simp only [List.zipIdx_cons, List.foldl_cons]
    rw [ih]
    have e := list_seg_step cells.toList (off + n) v vs (by simp at h ⊢; omega)
    rw [Array.toList_setIfInBounds, List.length_cons, ← e]
    rw [show off + (n + 1) = off + n + 1 from by omega]

/-- One part laid into cells. -/
theorem fill_step (off : Nat) (vs : List Value) (cells : Array Value) (h : off + vs.length ≤ cells.size) :
    (vs.toArray.zipIdx.foldl (fun cs (x : Value × Nat) => cs.setIfInBounds (off + x.2) x.1) cells) = (cells.toList.take off ++ vs ++ cells.toList.drop (off + vs.length)).toArray := by
  apply Array.ext'
  have := foldl_set off vs 0 cells (by simpa using h)
  simp only [Nat.add_zero] at this
  rw [← this]
  simp

/-- A struct that is put together, cell by cell. -/
theorem fill_ok {t sz : Nat} {places : Array (Nat × Nat)} (hp : ∀ f o, T.fo t f = some o → places[f]? = some (o, 1) ∧ o < sz) : ∀ (ps : List (Nat × SC)) (vs : List (Nat × Value)) (cs : List SC) (us : Array Value) (cs' : List SC),
    fillCells T t ps cs = some cs' → AllR (fun (x : Nat × SC) (y : Nat × Value) => x.1 = y.1 ∧ SCR x.2 y.2) ps vs → AllR SCR cs us.toList → us.size = sz →
    ∃ us' : Array Value, Instr.fill (places[·]?) us vs = some us' ∧ AllR SCR cs' us'.toList
  | [], [], cs, us, cs', h, _, hc, _ => by simp [fillCells] at h; subst h; exact ⟨us, rfl, hc⟩
  | (f, c) :: ps, (f', v) :: vs, cs, us, cs', h, hv, hc, hs => by
    obtain ⟨⟨hf, hcv⟩, hr⟩ := hv
    dsimp only at hf hcv
    subst hf
    unfold fillCells at h
    split at h
    · rename_i o ho
      obtain ⟨h1, h2⟩ := hp f o ho
      have hset : us.toList.take o ++ [v] ++ us.toList.drop (o + 1) = us.toList.set o v := by
        rw [List.set_eq_take_append_cons_drop, if_pos (by simp; omega)]
        simp
      obtain ⟨us', h3, h4⟩ := fill_ok hp ps vs (cs.set o c) (us.toList.set o v).toArray cs' h hr (by simpa using hc.set o hcv) (by simpa using hs)
      refine ⟨us', ?_, h4⟩
      unfold Instr.fill
      rw [h1]
      dsimp only
      rw [SCR.cells hcv]
      have hle : ¬ (#[v] : Array Value).size ≠ 1 ∧ ¬ o + (#[v] : Array Value).size > us.size := ⟨by simp, by simp; omega⟩
      rw [if_neg (by simp; omega)]
      have hst := fill_step o [v] us (by simp; omega)
      simp only [List.length_cons, List.length_nil, Nat.zero_add] at hst
      rw [hset] at hst
      rw [show (#[v] : Array Value) = [v].toArray from rfl, hst]
      exact h3
    · cases h
  | [], _ :: _, _, _, _, _, h, _, _ => h.elim
  | _ :: _, [], _, _, _, _, h, _, _ => h.elim

/-- A slice that is put together, element by element. -/
theorem fillVec_ok {k : K} : ∀ (ps : List (Nat × FV)) (vs : List (Nat × Value)) (xs : List k.ty) (us : Array Value) (ys : List k.ty) {Pr : Nat → Prop} {w : World} {ρ cargs : List Value},
    fillVec k ps xs = some ys → AllR (fun (x : Nat × FV) (y : Nat × Value) => x.1 = y.1 ∧ FVR w Pr ρ cargs x.2 y.2) ps vs → AllR SCR (xs.flatMap fun a => (k.f a).cells) us.toList →
    ∃ us' : Array Value, Instr.fill (fun i => some (i * k.sz, k.sz)) us vs = some us' ∧ AllR SCR (ys.flatMap fun a => (k.f a).cells) us'.toList ∧ ys.length = xs.length
  | [], [], xs, us, ys, _, _, _, _, h, _, hc => by simp [fillVec] at h; subst h; exact ⟨us, rfl, hc, rfl⟩
  | (i, x) :: ps, (i', v) :: vs, xs, us, ys, Pr, w, ρ, cargs, h, hv, hc => by
    obtain ⟨⟨hf, hcv⟩, hr⟩ := hv
    dsimp only at hf hcv
    subst hf
    cases x with
    | el e =>
      unfold fillVec at h
      split at h
      · rename_i a ha
        cases hi : decide (i < xs.length) with
        | false => rw [hi] at h; cases h
        | true =>
          rw [hi] at h
          replace hi := of_decide_eq_true hi
          have hfa := K.g_f ha
          subst hfa
          obtain ⟨cs, hcs, hcv⟩ := ElR.cells hcv
          have hl1 : cs.length = k.sz := by rw [← hcv.length, K.len_f]
          have hl2 : us.size = xs.length * k.sz := by rw [← Array.length_toList, ← hc.length, flat_len _ _ k.len_f]
          have hle : i * k.sz + k.sz ≤ us.size := by
            rw [hl2]
            calc i * k.sz + k.sz = (i + 1) * k.sz := by rw [Nat.add_mul]; omega
              _ ≤ xs.length * k.sz := Nat.mul_le_mul_right _ hi
          have hst := fill_step (i * k.sz) cs us (by rw [hl1]; exact hle)
          have hnew : AllR SCR ((xs.set i a).flatMap fun a => (k.f a).cells) (us.toList.take (i * k.sz) ++ cs ++ us.toList.drop (i * k.sz + cs.length)) := by
            rw [flat_set _ _ k.len_f xs i a hi, hl1]
            exact ((hc.take _).append hcv).append (hc.drop _)
          obtain ⟨us', h3, h4, h5⟩ := fillVec_ok ps vs (xs.set i a) (us.toList.take (i * k.sz) ++ cs ++ us.toList.drop (i * k.sz + cs.length)).toArray ys h hr (by simpa using hnew)
          refine ⟨us', ?_, h4, by rw [h5]; simp⟩
          unfold Instr.fill
          dsimp only
          rw [hcs, if_neg (by simp [hl1]; omega), hst]
          exact h3
      · cases h
    | nil => simp [fillVec] at h
    | vw o vec => simp [fillVec] at h
    | own r => simp [fillVec] at h
    | pt p => simp [fillVec] at h
    | fn f caps => simp [fillVec] at h
  | [], _ :: _, _, _, _, _, _, _, _, _, h, _ => h.elim
  | _ :: _, [], _, _, _, _, _, _, _, _, h, _ => h.elim

theorem execOp_call {a : Act} {o : Oper} {c : Call} (h : o.op = .call c) : execOp a.eval o = (do let d ← resolve a.eval c o.type; invoke d.target d.args) := by
  unfold execOp; rw [h]

/-- A built-in that is called. -/
theorem yields_builtin {o : Oper} {a : Act} {w w' : World} {b : Builtin} {args : Array Operand} {ts : Array TypeId} {v : Value} {Φ : Value → World → Prop}
    (ho : o.op = .call { callee := .builtin b, args := args, argTypes := ts })
    (h : ∀ consts, (builtin b ts o.type consts (args.map a.eval)).run P w = .ok (.value v) w') (hv : Φ v w') : Yields P o a w Φ := by
  unfold Yields
  rw [execOp_call ho]
  simp only [resolve, invoke, Sem.run_bind, Sem.run_pure, Result.andThen_ok, h]
  exact hv

theorem run_real' (w : World) (ts : Array TypeId) (t : TypeId) (k : FloatKind) (a b : Nat) : (Builtin.real_ ts t #[.complex k a b]).run P w = .ok (.float k a) w := rfl
theorem run_imag' (w : World) (ts : Array TypeId) (t : TypeId) (k : FloatKind) (a b : Nat) : (Builtin.imag_ ts t #[.complex k a b]).run P w = .ok (.float k b) w := rfl
theorem run_complex' (w : World) (ts : Array TypeId) (t : TypeId) (k : FloatKind) (a b : Nat) : (Builtin.complex_ ts t #[.float k a, .float k b]).run P w = .ok (.complex k a b) w := by cases k <;> rfl

theorem map_args {a : Act} {args : Array Operand} {xs : List Value} (h : args.toList.map a.eval = xs) : args.map a.eval = xs.toArray := by
  subst h
  apply Array.ext'
  rw [Array.toList_map]

/-- The built-ins that only compute. -/
theorem quiet_builtin (hT : TOK P T) {o : Oper} {s : St} {k : AV → Hp → R} {out : Out} {b : Builtin} {args : Array Operand} {ts : Array TypeId}
    (ho : o.op = .call { callee := .builtin b, args := args, argTypes := ts }) (q : Bool) (hb : q = true ∨ (b ≠ .append ∧ b ≠ .copy))
    (h : opK T q (.call { callee := .builtin b, args := args, argTypes := ts }) s k = some out) : ∃ av, k av s.H = some out ∧ Quiet P o s av := by
  unfold opK at h
  dsimp only at h
  split at h
  · cases h
  rename_i xs hxs
  have hev : ∀ {Pr : Nat → Prop} {w : World} {ρ cargs : List Value} {a : Act}, Opd Pr w ρ cargs s a o.op → AllR (FVR w Pr ρ cargs) xs (args.toList.map a.eval) := by
    intro Pr w ρ cargs a hop
    refine evAll_mem hxs fun x hx v hv => hop.fv x ?_ v hv
    rw [ho]
    simpa [Op.operands, Call.operands] using hx
  split at h
  · -- len
    rename_i x
    split at h
    · rename_i t ht
      split at h
      · rename_i e n he hn
        refine ⟨_, h, ?_⟩
        intro a w Pr ρ cargs hp hH hop
        obtain ⟨v, hv, hxv⟩ := (hev hop).one
        refine yields_builtin ho (v := .int .i64 n) (w' := w) ?_ ⟨rfl, Same.refl w⟩
        intro consts
        have hts : ts = #[t] := by rw [← Array.toArray_toList (xs := ts), ht]
        rw [map_args hv, hts]
        have := len_ok hT hH (ty := o.type) he hxv hn
        simp [builtin, this]
      · cases h
    · cases h
  · -- max
    rename_i c d
    obtain ⟨r, hr, hm⟩ := mxK_ok h
    refine ⟨_, hr, ?_⟩
    intro a w Pr ρ cargs hp hH hop
    obtain ⟨u, v, hv, hu1, hu2⟩ := (hev hop).two
    obtain ⟨z, w', h1, h2, h3⟩ := hm P w u v hu1 hu2
    simp only [cond_true] at h1
    refine yields_builtin ho (v := z) (w' := w') ?_ ⟨h2, h3⟩
    intro consts
    rw [map_args hv]
    simp [builtin, Builtin.max_, h1]
  · -- min
    rename_i c d
    obtain ⟨r, hr, hm⟩ := mxK_ok h
    refine ⟨_, hr, ?_⟩
    intro a w Pr ρ cargs hp hH hop
    obtain ⟨u, v, hv, hu1, hu2⟩ := (hev hop).two
    obtain ⟨z, w', h1, h2, h3⟩ := hm P w u v hu1 hu2
    simp only [cond_false] at h1
    refine yields_builtin ho (v := z) (w' := w') ?_ ⟨h2, h3⟩
    intro consts
    rw [map_args hv]
    simp [builtin, Builtin.min_, h1]
  · -- real
    refine ⟨_, h, ?_⟩
    intro a w Pr ρ cargs hp hH hop
    obtain ⟨v, hv, x, y, rfl, hx, hy⟩ := (hev hop).one
    refine yields_builtin ho (v := .float _ x) (w' := w) ?_ ⟨⟨x, rfl, hx⟩, Same.refl w⟩
    intro consts
    rw [map_args hv]
    simp [builtin, run_real' w]
  · -- imag
    refine ⟨_, h, ?_⟩
    intro a w Pr ρ cargs hp hH hop
    obtain ⟨v, hv, x, y, rfl, hx, hy⟩ := (hev hop).one
    refine yields_builtin ho (v := .float _ y) (w' := w) ?_ ⟨⟨y, rfl, hy⟩, Same.refl w⟩
    intro consts
    rw [map_args hv]
    simp [builtin, run_imag' w]
  · -- complex
    rename_i q1 a1 q2 b1
    cases hq : decide (q1 = q2) with
    | false => rw [hq] at h; cases h
    | true =>
      rw [hq] at h
      replace hq := of_decide_eq_true hq
      subst hq
      refine ⟨_, h, ?_⟩
      intro a w Pr ρ cargs hp hH hop
      obtain ⟨u, v, hv, ⟨x, rfl, hx⟩, ⟨y, rfl, hy⟩⟩ := (hev hop).two
      refine yields_builtin ho (v := .complex _ x y) (w' := w) ?_ ⟨⟨x, y, rfl, hx, hy⟩, Same.refl w⟩
      intro consts
      rw [map_args hv]
      simp [builtin, run_complex' w]
  · -- copy
    rcases hb with rfl | hb
    · cases h
    · exact absurd rfl hb.2
  · -- append
    rcases hb with rfl | hb
    · cases h
    · exact absurd rfl hb.1
  · cases h


/-! ### Calls of functions -/

section
variable {w : World} {Pr : Nat → Prop} {ρ cargs : List Value} {H : Hp}

theorem closeP_ok (hH : HR w Pr ρ H) (hp : ∀ k, Pr k → k < w.heap.size) {p q : PT} {v : Value} (hv : PtR w Pr ρ p v) (h : closeP H p = some q) : PtR w (fun k => k < w.heap.size) [] q v := by
  unfold closeP at h
  split at h
  · rename_i vec hb
    cases hs : Nat.beq p.sz vec.k.sz with
    | false => rw [hs] at h; cases h
    | true =>
      rw [hs] at h
      cases h
      obtain ⟨a, h1, h2, h3⟩ := base_cells hH hp hv hb
      exact ⟨a, h3, h2, Nat.eq_of_beq_eq_true hs, h1⟩
  · cases h

theorem closePs_ok (hH : HR w Pr ρ H) (hp : ∀ k, Pr k → k < w.heap.size) : ∀ {ps qs : List PT} {vs : List Value}, AllR (PtR w Pr ρ) ps vs → closePs H ps = some qs → AllR (PtR w (fun k => k < w.heap.size) []) qs vs
  | [], qs, [], _, h => by simp [closePs] at h; subst h; trivial
  | p :: ps, qs, v :: vs, hv, h => by
    unfold closePs at h
    split at h
    · rename_i q qs' hq hqs
      cases h
      exact ⟨closeP_ok hH hp hv.1 hq, closePs_ok hH hp hv.2 hqs⟩
    · cases h
  | [], _, _ :: _, hv, _ => hv.elim
  | _ :: _, _, [], hv, _ => hv.elim

theorem VwR.wide {v : Value} {vec : Vec} (hp : ∀ k, Pr k → k < w.heap.size) (h : VwR w Pr v vec) : VwR w (fun k => k < w.heap.size) v vec := by
  rcases h with h | ⟨a, cap, h1, h2, h3, h4⟩
  · exact .inl h
  · exact .inr ⟨a, cap, h1, h2, h3.imp id (hp _), h4⟩

theorem RowR.view {v : Value} {e : Nat} {vec : Vec} (h : RowR w Pr v e vec) : VwR w (fun k => k < w.heap.size) v vec := by
  obtain ⟨vs, hown, hvs, _⟩ := h
  rcases hown.2 with ⟨h1, h2⟩ | ⟨g, cap, cur, h1, _, h3, h4, _⟩
  · exact .inl ⟨h1, List.eq_nil_of_length_eq_zero h2⟩
  · refine .inr ⟨⟨g, 0, none⟩, cap, h1, h4, .inr (hown.lt g (by rw [h1]; rfl)).2, ?_⟩
    intro i c hi
    obtain ⟨u, hu, hc⟩ := hvs.get i c hi
    exact ⟨u, hown.cells (by rw [h1]; rfl) i u hu, hc⟩

theorem close_ok (hH : HR w Pr ρ H) (hp : ∀ k, Pr k → k < w.heap.size) {x y : FV} {v : Value} (hv : FVR w Pr ρ cargs x v) (h : close H x = some y) : FVR w (fun k => k < w.heap.size) [] [] y v := by
  unfold close at h
  split at h
  · cases h; exact hv
  · cases h; exact hv
  · cases h; exact ⟨hv.1.wide hp, fun i hi => by cases hi⟩
  · rename_i r
    split at h
    · rename_i row hrow
      cases h
      obtain ⟨v', hv', hr⟩ := hH.row r row hrow
      have hv2 : ρ[r]? = some v := hv
      rw [hv2] at hv'
      cases hv'
      exact ⟨hr.view, fun i hi => by cases hi⟩
    · cases h
  · split at h
    · rename_i q hq
      cases h
      exact closeP_ok hH hp hv hq
    · cases h
  · split at h
    · rename_i qs hqs
      cases h
      obtain ⟨cs, h1, h2⟩ := hv
      exact ⟨cs, h1, closePs_ok hH hp h2 hqs⟩
    · cases h

theorem closeAll_ok (hH : HR w Pr ρ H) (hp : ∀ k, Pr k → k < w.heap.size) : ∀ {xs ys : List FV} {vs : List Value}, AllR (FVR w Pr ρ cargs) xs vs → closeAll H xs = some ys → AllR (FVR w (fun k => k < w.heap.size) [] []) ys vs
  | [], ys, [], _, h => by simp [closeAll] at h; subst h; trivial
  | x :: xs, ys, v :: vs, hv, h => by
    unfold closeAll at h
    split at h
    · rename_i y ys' hy hys
      cases h
      exact ⟨close_ok hH hp hv.1 hy, closeAll_ok hH hp hv.2 hys⟩
    · cases h
  | [], _, _ :: _, hv, _ => hv.elim
  | _ :: _, _, [], hv, _ => hv.elim

theorem takeBack_quiet {w w' w'' : World} {args : List FV} {cargs2 : List Value} : ∀ {rs : List RV} {vs : List Value} {xs : List FV} {H' : Hp}, quietRV rs = true → AllR (RVR w w' cargs2) rs vs → takeBack args H rs = some (xs, H') → H' = H ∧ AllR (FVR w'' Pr ρ cargs) xs vs
  | [], [], xs, H', _, _, h => by simp [takeBack] at h; obtain ⟨rfl, rfl⟩ := h; exact ⟨rfl, trivial⟩
  | .el e :: rs, v :: vs, xs, H', hq, hv, h => by
    unfold takeBack at h
    split at h
    · rename_i ys H2 h2
      cases h
      obtain ⟨h3, h4⟩ := takeBack_quiet (rs := rs) hq hv.2 h2
      exact ⟨h3, hv.1, h4⟩
    · cases h
  | .nil :: _, _, _, _, hq, _, _ => by cases hq
  | .fresh _ _ :: _, _, _, _, hq, _, _ => by cases hq
  | .arg _ :: _, _, _, _, hq, _, _ => by cases hq
  | [], _ :: _, _, _, _, hv, _ => hv.elim
  | .el _ :: _, [], _, _, _, hv, _ => hv.elim

theorem packed_ok {xs : List FV} {vs : List Value} (h : AllR (FVR w Pr ρ cargs) xs vs) : AVR w Pr ρ cargs (packed xs) (packV vs) := by
  match xs, vs, h with
  | [], [], h => exact ⟨[], rfl, trivial⟩
  | [x], [v], h => exact h.1
  | x :: y :: xs, v :: u :: vs, h => exact ⟨_, rfl, h⟩
end

theorem callFunc_run {f : Nat} (h : Real P f) (args : Array Value) (w : World) : (callFunc f args).run P w = .ok (.enter f args) w := by
  obtain ⟨fn, h1, h2, h3⟩ := h
  have h4 : fn.body.isNone = false := by cases hb : fn.body <;> simp [hb] at h2 ⊢
  simp only [callFunc, Sem.run_bind, run_program, Result.andThen_ok, h1, h3, h4, Bool.false_eq_true, if_false, Sem.run_pure]

/-- A function that is called: the call that is entered. -/
theorem yields_call {o : Oper} {a : Act} {w : World} {x : Operand} {args : Array Operand} {ts : Array TypeId} {f : Nat} {cs : List Value} {Φ : Value → World → Prop}
    (ho : o.op = .call { callee := .value x, args := args, argTypes := ts }) (hx : a.eval x = .func (.func f) #[] cs.toArray) (hr : Real P f)
    (h : Calls P f (args.toList.map a.eval ++ cs).toArray w fun e w' => ∃ v, e = .returned v ∧ Φ v w') : Yields P o a w Φ := by
  unfold Yields
  rw [execOp_call ho]
  have e : (#[] ++ args.map a.eval) ++ cs.toArray = (args.toList.map a.eval ++ cs).toArray := by
    apply Array.ext'
    simp
  simp only [resolve, hx, Deferred.ofValue, invoke, Sem.run_bind, Sem.run_pure, Result.andThen_ok, e, callFunc_run hr]
  exact h

theorem yields_callOK {o : Oper} {a : Act} {w : World} {x : Operand} {args : Array Operand} {ts : Array TypeId} {f : Nat} {cs : List Value} {zs : List FV} {rs : List RV}
    (ho : o.op = .call { callee := .value x, args := args, argTypes := ts }) (hx : a.eval x = .func (.func f) #[] cs.toArray) (h : CallOK P f zs rs)
    (hall : AllR (FVR w (fun k => k < w.heap.size) [] []) zs (args.toList.map a.eval ++ cs)) : Yields P o a w fun v w' => ∃ us, v = packV us ∧ Same w w' ∧ RVs w w' (args.toList.map a.eval ++ cs) rs us := by
  rcases h with ⟨hr, hc⟩ | ⟨fn, e, c, h1, h2, h3, h4, h5, rfl, h6⟩
  · exact yields_call ho hx hr ((hc w _ hall).mono fun e w' ⟨us, h1, h2, h3⟩ => ⟨_, h1, us, rfl, h2, h3⟩)
  · obtain ⟨v, w', h7, h8, h9⟩ := h6 w _ hall
    unfold Yields
    rw [execOp_call ho]
    have e1 : (#[] ++ args.map a.eval) ++ cs.toArray = (args.toList.map a.eval ++ cs).toArray := by
      apply Array.ext'
      simp
    simp only [resolve, hx, Deferred.ofValue, invoke, Sem.run_bind, Sem.run_pure, Result.andThen_ok, e1, run_callFunc_extern h1 h2 h3 h4 h5, h7]
    refine ⟨[v], rfl, h9, ⟨⟨h8, trivial⟩, fun i j r r' u u' g _ hi hj hf => ?_⟩⟩
    cases i with
    | zero => simp at hi; subst hi; cases hf
    | succ i => simp at hi

theorem operands_call {x : Operand} {args : Array Operand} {ts : Array TypeId} {y : Operand} (h : y = x ∨ y ∈ args.toList) : y ∈ (Op.call { callee := .value x, args := args, argTypes := ts }).operands := by
  rcases h with rfl | h
  · simp [Op.operands, Call.operands]
  · have : y ∈ args := by simpa using h
    simp [Op.operands, Call.operands, this]

/-- A call that is only asked for numbers. -/
theorem quiet_call (hT : TOK P T) {o : Oper} {s : St} {k : AV → Hp → R} {out : Out} {x : Operand} {args : Array Operand} {ts : Array TypeId}
    (ho : o.op = .call { callee := .value x, args := args, argTypes := ts })
    (h : opK T true (.call { callee := .value x, args := args, argTypes := ts }) s k = some out) : ∃ av, k av s.H = some out ∧ Quiet P o s av := by
  unfold opK at h
  dsimp only at h
  split at h
  · rename_i g caps xs hg hxs
    cases hm : T.mutf g with
    | true => rw [hm] at h; cases h
    | false =>
      rw [hm] at h
      simp only [cond_false] at h
      split at h
      · rename_i zs hzs
        obtain ⟨rs, hcok, hk⟩ := hT.S _ _ _ _ h
        cases hq : quietRV rs with
        | false => rw [hq] at hk; cases hk
        | true =>
          rw [hq] at hk
          simp only [Bool.not_true, Bool.and_false, cond_false] at hk
          split at hk
          · rename_i vs H' htb
            have hH' : H' = s.H := by
              -- the memory is as it was
              have key : ∀ (rs : List RV) (vs : List FV) (H' : Hp), quietRV rs = true → takeBack xs s.H rs = some (vs, H') → H' = s.H := by
                intro rs
                induction rs with
                | nil => intro vs H' _ h; simp [takeBack] at h; exact h.2.symm
                | cons r rs ih =>
                  intro vs H' hq h
                  cases r with
                  | el e =>
                    unfold takeBack at h
                    split at h
                    · rename_i ys H2 h2
                      cases h
                      exact ih _ _ hq h2
                    · cases h
                  | nil => cases hq
                  | fresh e v => cases hq
                  | arg i => cases hq
              exact key rs vs H' hq htb
            subst hH'
            refine ⟨_, hk, ?_⟩
            intro a w Pr ρ cargs hp hH hop
            have hfn := hop.fv x (by rw [ho]; exact operands_call (.inl rfl)) _ hg
            obtain ⟨cs, hcs, hcaps⟩ := hfn
            have hargs : AllR (FVR w Pr ρ cargs) xs (args.toList.map a.eval) := evAll_mem hxs fun y hy v hv => hop.fv y (by rw [ho]; exact operands_call (.inr hy)) v hv
            have hcaps' : AllR (FVR w Pr ρ cargs) (caps.map .pt) cs := by
              refine AllR.of_get (by simp [hcaps.length]) fun i y v hy hv => ?_
              rw [List.getElem?_map] at hy
              obtain ⟨p, hp1, hp2⟩ := Option.map_eq_some_iff.1 hy
              subst hp2
              obtain ⟨v', hv', hr⟩ := hcaps.get i p hp1
              rw [hv] at hv'
              cases hv'
              exact hr
            have hall := closeAll_ok hH hp (hargs.append hcaps') hzs
            refine (yields_callOK ho hcs hcok hall).mono ?_
            rintro e w' ⟨us, rfl, hsame, hrv⟩
            obtain ⟨_, h5⟩ := takeBack_quiet (H := s.H) (w'' := w) (Pr := Pr) (ρ := ρ) (cargs := cargs) hq hrv.all htb
            exact ⟨packed_ok h5, hsame⟩
          · cases hk
      · cases h
  · cases h

end
end Go.Sm
