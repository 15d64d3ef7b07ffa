/- Every operation: what the machine says, the model does. -/
import Derived.Test.YtngcejakoaoojaaB1
namespace Go.Sm
open Go Go.RowKit

section
variable {P : Program} {T : TT}

/-- What a call hands back, laid into the caller's memory. -/
theorem takeBack_ok {w w' : World} {Pr : Nat → Prop} {cargs cs : List Value} (hp : ∀ k, Pr k → k < w.heap.size) {args : List FV} :
    ∀ (rs : List RV) (vs : List Value) (xs : List FV) (H H' : Hp) (ρ : List Value), AllR (RVR w w' cs) rs vs →
      (∀ (i j : Nat) (r r' : RV) (v v' : Value) (g : Nat), i ≠ j → rs[i]? = some r → rs[j]? = some r' → r.isFresh = true → r'.isFresh = true → vs[i]? = some v → vs[j]? = some v' → v.ownBlock = some g → v'.ownBlock ≠ some g) →
      takeBack args H rs = some (xs, H') → HR w' Pr ρ H →
      (∀ (i : Nat) (r : RV) (v : Value) (g : Nat), rs[i]? = some r → r.isFresh = true → vs[i]? = some v → v.ownBlock = some g → ∀ (q : Nat) (row : Row) (u : Value), rowAt H q = some row → ρ[q]? = some u → u.ownBlock ≠ some g) →
      (∀ (i : Nat) (x : FV), args[i]? = some x → ∃ v, cs[i]? = some v ∧ FVR w' Pr ρ cargs x v) →
      ∃ ρ', (∀ (r : Nat) (u : Value), ρ[r]? = some u → ρ'[r]? = some u) ∧ AllR (FVR w' Pr ρ' cargs) xs vs ∧ HR w' Pr ρ' H'
  | [], [], xs, H, H', ρ, _, _, h, hH, _, _ => by
    simp [takeBack] at h
    obtain ⟨rfl, rfl⟩ := h
    exact ⟨ρ, fun _ _ h => h, trivial, hH⟩
  | r :: rs, v :: vs, xs, H, H', ρ, hv, hap, h, hH, hsep, hargs => by
    have hap' : ∀ (i j : Nat) (r r' : RV) (v v' : Value) (g : Nat), i ≠ j → rs[i]? = some r → rs[j]? = some r' → r.isFresh = true → r'.isFresh = true → vs[i]? = some v → vs[j]? = some v' → v.ownBlock = some g → v'.ownBlock ≠ some g :=
      fun i j r r' v v' g hne h1 h2 h3 h4 h5 h6 => hap (i + 1) (j + 1) r r' v v' g (by omega) (by simpa using h1) (by simpa using h2) h3 h4 (by simpa using h5) (by simpa using h6)
    have hsep' : ∀ (i : Nat) (r : RV) (v : Value) (g : Nat), rs[i]? = some r → r.isFresh = true → vs[i]? = some v → v.ownBlock = some g → ∀ (q : Nat) (row : Row) (u : Value), rowAt H q = some row → ρ[q]? = some u → u.ownBlock ≠ some g :=
      fun i r v g h1 h2 h3 => hsep (i + 1) r v g (by simpa using h1) h2 (by simpa using h3)
    cases r with
    | el e =>
      unfold takeBack at h
      split at h
      · rename_i ys H2 h2
        cases h
        obtain ⟨ρ', h3, h4, h5⟩ := takeBack_ok hp rs vs ys H H' ρ hv.2 hap' h2 hH hsep' hargs
        exact ⟨ρ', h3, ⟨hv.1, h4⟩, h5⟩
      · cases h
    | nil =>
      unfold takeBack at h
      split at h
      · rename_i ys H2 h2
        cases h
        obtain ⟨ρ', h3, h4, h5⟩ := takeBack_ok hp rs vs ys H H' ρ hv.2 hap' h2 hH hsep' hargs
        exact ⟨ρ', h3, ⟨hv.1, h4⟩, h5⟩
      · cases h
    | arg i =>
      unfold takeBack at h
      split at h
      · rename_i x ys H2 hx h2
        cases h
        obtain ⟨ρ', h3, h4, h5⟩ := takeBack_ok hp rs vs ys H H' ρ hv.2 hap' h2 hH hsep' hargs
        obtain ⟨u, hu, hr⟩ := hargs i x hx
        have hv1 : cs[i]? = some v := hv.1
        rw [hv1] at hu
        cases hu
        exact ⟨ρ', h3, ⟨hr.keep (fun _ _ => rfl) h3, h4⟩, h5⟩
      · cases h
    | fresh e vec =>
      unfold takeBack at h
      split at h
      · rename_i ys H2 h2
        cases h
        obtain ⟨us, hown, hus, hnew⟩ := hv.1
        have hrow : RowR w' Pr v e vec := ⟨us, hown, hus, fun g hg hpr => by have := hnew g hg; have := hp g hpr; omega⟩
        have hpush := hH.push' hrow fun g hg r' row u h1 h2 => hsep 0 (.fresh e vec) v g rfl rfl rfl hg r' row u h1 h2
        obtain ⟨ρ', h3, h4, h5⟩ := takeBack_ok hp rs vs ys _ H' (ρ ++ [v]) hv.2 hap' h2 hpush (by
          intro i r' v' g h1 h2 h3 h4 q row u hq hu
          rcases rowAt_push hq with hq' | ⟨rfl, hq'⟩
          · obtain ⟨u2, hu2, _⟩ := hH.row q row hq'
            have := getElem?_push_old (v := v) hu2
            rw [hu] at this
            cases this
            exact hsep' i r' v' g h1 h2 h3 h4 q row _ hq' hu2
          · rw [← hH.len] at hu
            simp at hu
            subst hu
            intro hg
            exact hap 0 (i + 1) (.fresh e vec) r' v v' g (by omega) rfl (by simpa using h1) rfl h2 rfl (by simpa using h3) hg h4) (fun i x hx => by
          obtain ⟨u, hu, hr⟩ := hargs i x hx
          exact ⟨u, hu, hr.keep (fun _ _ => rfl) (old_push v)⟩)
        refine ⟨ρ', fun r u h => h3 r u (getElem?_push_old h), ⟨?_, h4⟩, h5⟩
        show ρ'[H.length]? = some v
        exact h3 _ _ (by rw [← hH.len]; simp)
      · cases h
  | [], _ :: _, _, _, _, _, hv, _, _, _, _, _ => hv.elim
  | _ :: _, [], _, _, _, _, hv, _, _, _, _, _ => hv.elim

theorem caps_ok {w : World} {Pr : Nat → Prop} {ρ cargs : List Value} {caps : List PT} {cs : List Value} (h : AllR (PtR w Pr ρ) caps cs) : AllR (FVR w Pr ρ cargs) (caps.map .pt) cs := by
  refine AllR.of_get (by simp [h.length]) fun i y v hy hv => ?_
  rw [List.getElem?_map] at hy
  obtain ⟨p, hp1, hp2⟩ := Option.map_eq_some_iff.1 hy
  subst hp2
  obtain ⟨v', hv', hr⟩ := h.get i p hp1
  rw [hv] at hv'
  cases hv'
  exact hr

theorem allEl_ok {w w' : World} {Pr Pr' : Nat → Prop} {ρ ρ' cargs cargs' : List Value} : ∀ {xs : List FV} {vs : List Value}, allEl xs = true → AllR (FVR w Pr ρ cargs) xs vs → AllR (FVR w' Pr' ρ' cargs') xs vs
  | [], [], _, _ => trivial
  | .el e :: xs, v :: vs, h, hv => ⟨hv.1, allEl_ok (xs := xs) h hv.2⟩
  | [], _ :: _, _, hv => hv.elim
  | .el _ :: _, [], _, hv => hv.elim
  | .nil :: _, _, h, _ => by cases h
  | .vw _ _ :: _, _, h, _ => by cases h
  | .own _ :: _, _, h, _ => by cases h
  | .pt _ :: _, _, h, _ => by cases h
  | .fn _ _ :: _, _, h, _ => by cases h

theorem does_call (hT : TOK P T) {o : Oper} {s : St} {k : AV → Hp → R} {out : Out} {x : Operand} {args : Array Operand} {ts : Array TypeId}
    (ho : o.op = .call { callee := .value x, args := args, argTypes := ts })
    (h : opK T false (.call { callee := .value x, args := args, argTypes := ts }) s k = some out) : ∃ av H', k av H' = some out ∧ Does P o s av H' := by
  unfold opK at h
  dsimp only at h
  split at h
  · rename_i g caps xs hg hxs
    cases hm : T.mutf g with
    | true =>
      rw [hm] at h
      simp only [cond_true, cond_false] at h
      split at h
      · rename_i r ys
        split at h
        · rename_i row zs hrow hzs
          cases hall : allEl zs with
          | false => rw [hall] at h; cases h
          | true =>
            rw [hall] at h
            simp only [cond_true] at h
            obtain ⟨rs, vec', hreal, hcok, hk⟩ := hT.M _ _ _ _ _ h
            cases hq : (quietRV rs && decide (vec'.k = row.v.k)) with
            | false => rw [hq] at hk; cases hk
            | true =>
              rw [hq] at hk
              rw [Bool.and_eq_true, decide_eq_true_eq] at hq
              simp only [cond_true] at hk
              split at hk
              · rename_i vs H' htb
                refine ⟨_, _, hk, ?_⟩
                intro a w Pr ρ cargs hp hH hop
                obtain ⟨cs, hcs, hcaps⟩ := hop.fv x (by rw [ho]; exact operands_call (.inl rfl)) _ hg
                have hcs0 : cs = [] := by cases cs with
                  | nil => rfl
                  | cons c cs => exact hcaps.elim
                subst hcs0
                have hargs : AllR (FVR w Pr ρ cargs) (.own r :: ys) (args.toList.map a.eval) := evAll_mem hxs fun y hy v hv => hop.fv y (by rw [ho]; exact operands_call (.inr hy)) v hv
                cases hl : args.toList.map a.eval with
                | nil => rw [hl] at hargs; exact hargs.elim
                | cons v us =>
                  rw [hl] at hargs
                  have hv : ρ[r]? = some v := hargs.1
                  obtain ⟨v2, hv2, xs2, hown, hxs2, hnp⟩ := hH.row r row hrow
                  rw [hv] at hv2
                  cases hv2
                  have hclosed := closeAll_ok hH hp hargs.2 hzs
                  have hel := allEl_ok (w' := w) (Pr' := fun k => k < w.heap.size ∧ v.ownBlock ≠ some k) (ρ' := []) (cargs' := []) hall hclosed
                  refine yields_call ho hcs hreal ?_
                  rw [hl, List.append_nil]
                  refine (hcok w row.e v us ⟨xs2, hown, hxs2⟩ hel).mono ?_
                  rintro e w' ⟨ws, rfl, hkeep, hrow', hrv⟩
                  have hoth : ∀ k, k < w.heap.size → v.ownBlock ≠ some k → w'.heap[k]? = w.heap[k]? := fun k hk1 hk2 => hkeep.block k ⟨hk1, hk2⟩
                  have hH2 : HR w' Pr ρ (s.H.set r (some ⟨row.e, vec'⟩)) := by
                    refine ⟨by rw [List.length_set]; exact hH.len, fun r' row' hr' => ?_, fun r1 r2 row1 row2 v1 v2 g' hne h1 h2 h3 h4 h5 => ?_⟩
                    · rcases rowAt_set hr' with ⟨hne, hold⟩ | ⟨rfl, hnew⟩
                      · obtain ⟨u, hu, hr2⟩ := hH.row r' row' hold
                        exact ⟨u, hu, hr2.keep fun g' hg' => hoth g' (hr2.lt hg') fun e => hH.apart r r' row row' v u g' hne hrow hold hv hu e hg'⟩
                      · cases hnew
                        obtain ⟨vs', h1, h2⟩ := hrow'
                        exact ⟨v, hv, vs', h1, h2, hnp⟩
                    · have key : ∀ {r' : Nat} {row' : Row}, rowAt (List.set s.H r (some ⟨row.e, vec'⟩)) r' = some row' → ∃ row'', rowAt s.H r' = some row'' := by
                        intro r' row' h
                        rcases rowAt_set h with ⟨_, h⟩ | ⟨rfl, _⟩
                        · exact ⟨_, h⟩
                        · exact ⟨_, hrow⟩
                      obtain ⟨row1', h1'⟩ := key h1
                      obtain ⟨row2', h2'⟩ := key h2
                      exact hH.apart r1 r2 row1' row2' v1 v2 g' hne h1' h2' h3 h4 h5
                  obtain ⟨hHe, h5⟩ := takeBack_quiet (w'' := w') (Pr := Pr) (ρ := ρ) (cargs := cargs) hq.1 hrv.all htb
                  subst hHe
                  exact ⟨_, rfl, ρ, fun _ _ h => h, packed_ok h5, hH2, ⟨hkeep.os, hkeep.tape, hkeep.output, hkeep.size, fun k hk => hoth k (hp k hk) fun e => hnp k e hk⟩⟩
              · cases hk
        · cases h
      · cases h
    | false =>
      rw [hm] at h
      simp only [cond_false] at h
      split at h
      · rename_i zs hzs
        obtain ⟨rs, hcok, hk⟩ := hT.S _ _ _ _ h
        simp only [Bool.false_and, cond_false] at hk
        split at hk
        · rename_i vs H' htb
          refine ⟨_, _, hk, ?_⟩
          intro a w Pr ρ cargs hp hH hop
          obtain ⟨cs, hcs, hcaps⟩ := hop.fv x (by rw [ho]; exact operands_call (.inl rfl)) _ hg
          have hargs : AllR (FVR w Pr ρ cargs) xs (args.toList.map a.eval) := evAll_mem hxs fun y hy v hv => hop.fv y (by rw [ho]; exact operands_call (.inr hy)) v hv
          have hall := closeAll_ok hH hp (hargs.append (caps_ok hcaps)) hzs
          refine (yields_callOK ho hcs hcok hall).mono ?_
          rintro e w' ⟨us, rfl, hsame, hrv⟩
          have hH' := hH.keep hsame.block
          obtain ⟨ρ', h3, h4, h5⟩ := takeBack_ok hp rs us vs s.H H' ρ hrv.all hrv.apart htb hH' (by
            intro i r v g h1 h2 h3 h4 q row u hq hu
            obtain ⟨u2, hu2, hr2⟩ := hH.row q row hq
            rw [hu] at hu2
            cases hu2
            intro hg
            have hlt := hr2.lt hg
            obtain ⟨v2, hv2, hrr⟩ := hrv.all.get i r h1
            rw [h3] at hv2
            cases hv2
            cases r with
            | fresh e vec =>
              obtain ⟨_, _, _, hnew⟩ := hrr
              have := hnew g h4
              omega
            | el e => cases h2
            | nil => cases h2
            | arg i => cases h2) (by
            intro i y hy
            obtain ⟨v, hv, hr⟩ := hargs.get i y hy
            refine ⟨v, ?_, hr.same hsame hp⟩
            rw [List.getElem?_append_left]
            · exact hv
            · rcases Nat.lt_or_ge i (args.toList.map a.eval).length with h' | h'
              · exact h'
              · rw [List.getElem?_eq_none h'] at hv; cases hv)
          exact ⟨ρ', h3, packed_ok h4, h5, Keep.of_below hsame hp⟩
        · cases hk
      · cases h
  · cases h

/-- **EVERY OPERATION.** -/
theorem opK_does (hT : TOK P T) {o : Oper} {s : St} {k : AV → Hp → R} {out : Out} (h : opK T false o.op s k = some out) : ∃ av H', k av H' = some out ∧ Does P o s av H' := by
  have quiet : opK T true o.op s k = opK T false o.op s k → ∃ av H', k av H' = some out ∧ Does P o s av H' := fun e => by
    obtain ⟨av, h1, h2⟩ := opK_quiet hT (e.trans h)
    exact ⟨av, s.H, h1, h2.does⟩
  cases hop : o.op with
  | move x => exact quiet (by rw [hop]; rfl)
  | assign x => exact quiet (by rw [hop]; rfl)
  | pick c x y => exact quiet (by rw [hop]; rfl)
  | binOp b t x y t' => exact quiet (by rw [hop]; rfl)
  | unOp b t x => exact quiet (by rw [hop]; rfl)
  | convert c d x => exact quiet (by rw [hop]; rfl)
  | nilCheck x => exact quiet (by rw [hop]; rfl)
  | load t x => exact quiet (by rw [hop]; rfl)
  | fieldAddr t x f => exact quiet (by rw [hop]; rfl)
  | indexAddr t x i => exact quiet (by rw [hop]; rfl)
  | extract x i => exact quiet (by rw [hop]; rfl)
  | field t x f => exact quiet (by rw [hop]; rfl)
  | slice t x lo hi mx => exact quiet (by rw [hop]; cases mx <;> rfl)
  | makeFunc fn first caps => exact quiet (by rw [hop]; rfl)
  | build t ps => exact quiet (by rw [hop]; rfl)
  | store t x y => rw [hop] at h; exact does_store hT hop h
  | box t x => rw [hop] at h; exact does_boxed hop h
  | alloc t => rw [hop] at h; exact does_alloc hT hop h
  | buildSlice t n ps => rw [hop] at h; exact does_buildSlice hT hop h
  | makeSlice t l c => rw [hop] at h; exact does_makeSlice hT hop h
  | call c =>
    obtain ⟨callee, args, ts⟩ := c
    rw [hop] at h
    cases callee with
    | value x => exact does_call hT hop h
    | invoke r m => unfold opK at h; cases h
    | builtin b =>
      by_cases hb : b = .append
      · subst hb
        unfold opK at h
        dsimp only at h
        split at h
        · cases h
        · rename_i xs hxs
          split at h
          all_goals first | (cases h; done) | contradiction | skip
          · rename_i d x _ _
            simp only [cond_false] at h
            split at h
            · rename_i t t' hts
              cases htt : Nat.beq t t' with
              | false => rw [htt] at h; cases h
              | true =>
                rw [htt] at h
                have := Nat.eq_of_beq_eq_true htt
                subst this
                exact does_append hT hop hts hxs h
            · cases h
      · by_cases hb2 : b = .copy
        · subst hb2
          unfold opK at h
          dsimp only at h
          split at h
          · cases h
          · rename_i xs hxs
            split at h
            all_goals first | (cases h; done) | contradiction | skip
            · rename_i d x _ _
              simp only [cond_false] at h
              split at h
              · rename_i t tl hts
                exact does_copy hT hop hts hxs h
              · cases h
        · obtain ⟨av, h1, h2⟩ := quiet_builtin hT hop false (.inr ⟨hb, hb2⟩) h
          exact ⟨av, s.H, h1, h2.does⟩
  | _ => rw [hop] at h; unfold opK at h; cases h

end
end Go.Sm
