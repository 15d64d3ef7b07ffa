/- The operations that make memory, or write into the call's own: what the machine says, the model does. -/
import Derived.Test.YtngcejakoaoojaaA8
namespace Go.Sm
open Go Go.RowKit

section
variable {P : Program} {T : TT}

/-- What is asked of an operation: its value, and the memory behind it. -/
def Does (P : Program) (o : Oper) (s : St) (av : AV) (H' : Hp) : Prop :=
  ∀ (a : Act) (w : World) (Pr : Nat → Prop) (ρ cargs : List Value), (∀ k, Pr k → k < w.heap.size) → HR w Pr ρ s.H → Opd Pr w ρ cargs s a o.op →
    Yields P o a w fun v w' => ∃ ρ', (∀ (r : Nat) (u : Value), ρ[r]? = some u → ρ'[r]? = some u) ∧ AVR w' Pr ρ' cargs av v ∧ HR w' Pr ρ' H' ∧ Keep Pr w w'

theorem Quiet.does {o : Oper} {s : St} {av : AV} (h : Quiet P o s av) : Does P o s av s.H := by
  intro a w Pr ρ cargs hp hH ho
  exact (h a w Pr ρ cargs hp hH ho).mono fun v w' ⟨h1, h2⟩ => ⟨ρ, fun _ _ h => h, h1.same h2 hp, hH.keep h2.block, Keep.of_below h2 hp⟩

theorem getElem?_push_old {ρ : List Value} {v u : Value} {r : Nat} (h : ρ[r]? = some u) : (ρ ++ [v])[r]? = some u := by
  have hl : r < ρ.length := by
    rcases Nat.lt_or_ge r ρ.length with h' | h'
    · exact h'
    · rw [List.getElem?_eq_none h'] at h; cases h
  rw [List.getElem?_append_left hl]
  exact h

theorem rowAt_push {H : Hp} {x : Option Row} {r : Nat} {row : Row} (h : rowAt (H ++ [x]) r = some row) : rowAt H r = some row ∨ (r = H.length ∧ x = some row) := by
  unfold rowAt at *
  split at h
  · rename_i row' hr
    cases h
    rw [List.getElem?_append] at hr
    split at hr
    · exact .inl (by rw [hr])
    · rename_i hl
      have : r = H.length := by
        by_cases e : r - H.length = 0
        · omega
        · obtain ⟨q, hq⟩ : ∃ q, r - H.length = q + 1 := ⟨r - H.length - 1, by omega⟩
          rw [hq] at hr
          simp at hr
      subst this
      simp at hr
      exact .inr ⟨rfl, hr⟩
  · cases h

theorem rowAt_lt {H : Hp} {r : Nat} {row : Row} (h : rowAt H r = some row) : r < H.length := by
  unfold rowAt at h
  split at h
  · rename_i row' hr
    rcases Nat.lt_or_ge r H.length with h' | h'
    · exact h'
    · rw [List.getElem?_eq_none h'] at hr; cases hr
  · cases h

/-- A new row. -/
theorem HR.push {w w' : World} {Pr : Nat → Prop} {ρ : List Value} {H : Hp} {v : Value} {e : Nat} {vec : Vec} (hH : HR w Pr ρ H) (hs : ∀ k, k < w.heap.size → w'.heap[k]? = w.heap[k]?)
    (hr : RowR w' Pr v e vec) (hn : ∀ g, v.ownBlock = some g → w.heap.size ≤ g) : HR w' Pr (ρ ++ [v]) (H ++ [some ⟨e, vec⟩]) := by
  have hH' := hH.keep hs
  refine ⟨by simp [hH.len], fun r row hrow => ?_, fun r r' row row' u u' g hne h1 h2 h3 h4 h5 h6 => ?_⟩
  · rcases rowAt_push hrow with h | ⟨rfl, h⟩
    · obtain ⟨u, h1, h2⟩ := hH'.row r row h
      exact ⟨u, getElem?_push_old h1, h2⟩
    · cases h
      exact ⟨v, by rw [← hH.len]; simp, hr⟩
  · rcases rowAt_push h1 with a | ⟨ra, a⟩ <;> rcases rowAt_push h2 with b | ⟨rb, b⟩
    · obtain ⟨x, hx, _⟩ := hH.row r row a
      obtain ⟨y, hy, _⟩ := hH.row r' row' b
      have hx' := getElem?_push_old (v := v) hx
      have hy' := getElem?_push_old (v := v) hy
      rw [h3] at hx'
      rw [h4] at hy'
      cases hx'
      cases hy'
      exact hH.apart r r' row row' _ _ g hne a b hx hy h5 h6
    · obtain ⟨x, hx, hxr⟩ := hH.row r row a
      have hx' := getElem?_push_old (v := v) hx
      rw [h3] at hx'
      cases hx'
      subst rb
      rw [← hH.len] at h4
      simp at h4
      subst h4
      have := hn g h6
      have := hxr.lt h5
      omega
    · obtain ⟨y, hy, hyr⟩ := hH.row r' row' b
      have hy' := getElem?_push_old (v := v) hy
      rw [h4] at hy'
      cases hy'
      subst ra
      rw [← hH.len] at h3
      simp at h3
      subst h3
      have := hn g h5
      have := hyr.lt h6
      omega
    · omega

theorem old_push {ρ : List Value} (v : Value) : ∀ (r : Nat) (u : Value), ρ[r]? = some u → (ρ ++ [v])[r]? = some u := fun _ _ h => getElem?_push_old h

theorem heap_old (w : World) (o : Obj) : ∀ k, k < w.heap.size → (w.alloc o).heap[k]? = w.heap[k]? := fun k hk => Below.heap_alloc w o k hk

theorem keep_alloc {w : World} {Pr : Nat → Prop} (hp : ∀ k, Pr k → k < w.heap.size) (o : Obj) : Keep Pr w (w.alloc o) :=
  Keep.of_below ((Below.refl _ _).alloc (Nat.le_refl _) o) hp

/-- A row in a new block. -/
theorem RowR.fresh {w : World} {Pr : Nat → Prop} (hp : ∀ k, Pr k → k < w.heap.size) {e : Nat} {vec : Vec} {cells : Array Value} (hc : AllR SCR vec.cells cells.toList) (hl : vec.xs.length ≤ maxLen) :
    RowR (w.alloc (.cells cells e)) Pr (.slice (some ⟨w.heap.size, 0, none⟩) vec.xs.length vec.xs.length) e vec := by
  have hlen : cells.toList.length = vec.xs.length * vec.k.sz := by rw [← hc.length, vec.len_cells]
  refine ⟨cells.toList, ⟨hlen, .inr ⟨w.heap.size, vec.xs.length, cells, rfl, Nat.zero_le _, heap_alloc_new w _, Nat.le_refl _, hl, by rw [← hlen]; simp, ?_⟩⟩, hc, ?_⟩
  · rw [← hlen]; exact List.take_length
  · intro g hg
    simp only [Value.ownBlock, Option.some.injEq] at hg
    subst hg
    intro h
    exact Nat.lt_irrefl _ (hp _ h)

/-- A slice that is made. -/
theorem does_fresh {o : Oper} {s : St} {e : Nat} {vec : Vec}
    (h : ∀ (a : Act) (w : World) (Pr : Nat → Prop) (ρ cargs : List Value), (∀ k, Pr k → k < w.heap.size) → HR w Pr ρ s.H → Opd Pr w ρ cargs s a o.op →
      ∃ (X : Sem Value) (cells : Array Value), execOp a.eval o = (do pure (.value (← X))) ∧ X.run P w = .ok (.slice (some ⟨w.heap.size, 0, none⟩) vec.xs.length vec.xs.length) (w.alloc (.cells cells e)) ∧ AllR SCR vec.cells cells.toList ∧ vec.xs.length ≤ maxLen) :
    Does P o s (.fv (.own s.H.length)) (s.H ++ [some ⟨e, vec⟩]) := by
  intro a w Pr ρ cargs hp hH ho
  obtain ⟨X, cells, h1, h2, h3, h4⟩ := h a w Pr ρ cargs hp hH ho
  refine yields_value h1 h2 ⟨ρ ++ [_], old_push _, ?_, hH.push (heap_old w _) (RowR.fresh hp h3 h4) ?_, keep_alloc hp _⟩
  · show (ρ ++ [_])[s.H.length]? = some _
    rw [← hH.len]; simp
  · intro g hg
    simp only [Value.ownBlock, Option.some.injEq] at hg
    omega

theorem maxLen_one : 1 ≤ maxLen := by unfold maxLen; omega

/-- A variable that is made. -/
theorem does_box {o : Oper} {s : St} {e : Nat} {kd : K} {x : kd.ty}
    (h : ∀ (a : Act) (w : World) (Pr : Nat → Prop) (ρ cargs : List Value), (∀ k, Pr k → k < w.heap.size) → HR w Pr ρ s.H → Opd Pr w ρ cargs s a o.op →
      ∃ (X : Sem Value) (cells : Array Value), execOp a.eval o = (do pure (.value (← X))) ∧ X.run P w = .ok (.pointer (some ⟨w.heap.size, 0, none⟩)) (w.alloc (.cells cells e)) ∧ AllR SCR (kd.f x).cells cells.toList) :
    Does P o s (.fv (.pt ⟨.r s.H.length, kd.sz, 0, 0⟩)) (s.H ++ [some ⟨e, ⟨kd, [x]⟩⟩]) := by
  intro a w Pr ρ cargs hp hH ho
  obtain ⟨X, cells, h1, h2, h3⟩ := h a w Pr ρ cargs hp hH ho
  have hc : AllR SCR (Vec.cells ⟨kd, [x]⟩) cells.toList := by
    unfold Vec.cells
    simpa using h3
  refine yields_value h1 h2 ⟨ρ ++ [_], old_push _, ?_, hH.push (heap_old w _) (RowR.fresh (vec := ⟨kd, [x]⟩) hp hc maxLen_one) ?_, keep_alloc hp _⟩
  · simp only [AVR, FVR, PtR]
    exact ⟨_, w.heap.size, by rw [← hH.len]; simp; rfl, rfl, by simp⟩
  · intro g hg
    simp only [Value.ownBlock, Option.some.injEq] at hg
    omega

theorem madeCells_rep {k : K} {z : Value} (hz : ElR (k.f k.z) z) (n : Nat) : AllR SCR (Vec.cells ⟨k, List.replicate n k.z⟩) ((Array.range (n * k.sz)).map (z.cells[· % z.cells.size]!)).toList := by
  obtain ⟨zs, h1, h2⟩ := ElR.cells hz
  have hl : zs.length = k.sz := by rw [← h2.length, K.len_f]
  have hsz : z.cells.size = k.sz := by rw [h1]; simpa using hl
  refine AllR.of_get (by simp [Vec.len_cells]) fun i c u hc hu => ?_
  have hlt : i < n * k.sz := by
    rcases Nat.lt_or_ge i (n * k.sz) with h' | h'
    · exact h'
    · rw [List.getElem?_eq_none (by simp [Vec.len_cells]; exact h')] at hc; cases hc
  have hmod : i % k.sz < k.sz := Nat.mod_lt _ k.sz_pos
  have hdm : (i / k.sz) * k.sz + i % k.sz = i := by rw [Nat.mul_comm]; exact Nat.div_add_mod i k.sz
  have hq : i / k.sz < n := (Nat.div_lt_iff_lt_mul k.sz_pos).2 hlt
  have h3 := Vec.get_cells ⟨k, List.replicate n k.z⟩ (i / k.sz) (i % k.sz) k.z (by simp [hq]) hmod
  dsimp only at h3
  rw [hdm, hc] at h3
  obtain ⟨u', hu', hr⟩ := h2.get (i % k.sz) c h3.symm
  have e : u = u' := by
    simp only [Array.toList_map, List.getElem?_map, Array.toList_range, List.getElem?_range hlt, Option.map_some, Option.some.injEq] at hu
    rw [← hu, hsz, h1]
    have : i % k.sz < zs.length := by omega
    simp only [List.getElem?_eq_getElem this, Option.some.injEq] at hu'
    simp [this, hu']
  rw [e]
  exact hr

theorem does_buildSlice (hT : TOK P T) {o : Oper} {s : St} {k : AV → Hp → R} {out : Out} {t n : Nat} {parts : Array (Nat × Operand)} (hop : o.op = .buildSlice t n parts) (h : opK T false (.buildSlice t n parts) s k = some out) :
    ∃ av H', k av H' = some out ∧ Does P o s av H' := by
  unfold opK at h
  simp only [cond_false] at h
  split at h
  · rename_i e ps he hps
    split at h
    · rename_i kd hkd
      split at h
      · rename_i xs hxs
        cases hn : decide (n ≤ 65536) with
        | false => rw [hn] at h; cases h
        | true =>
          rw [hn] at h
          replace hn := of_decide_eq_true hn
          refine ⟨_, _, h, does_fresh ?_⟩
          intro a w Pr ρ cargs hp hH ho
          obtain ⟨i, z, d, hi, hsz, hz, hze, _⟩ := hT.ek e kd hkd
          have hparts := evParts_mem hps (Pr := Pr) (w := w) (ρ := ρ) (cargs := cargs) (a := a) fun p hpm v hv => ho.fv p.2 (by rw [hop]; simp only [Op.operands]; simp; exact ⟨p.1, by simpa using hpm⟩) v hv
          obtain ⟨us', hf1, hf2, hf3⟩ := fillVec_ok ps _ _ ((Array.range (n * kd.sz)).map (z.cells[· % z.cells.size]!)) xs hxs hparts (madeCells_rep hze n)
          have hlen : xs.length = n := by rw [hf3]; simp
          refine ⟨Instr.buildSlice t n (parts.map fun p => (p.1, a.eval p.2)), us', by rw [exec_eq hop]; rfl, ?_, hf2, by dsimp only; rw [hlen]; unfold maxLen; omega⟩
          have hsmall : ¬ 2 ^ 24 < n * kd.sz := by
            have := kd.sz_le
            have h2 : n * kd.sz ≤ 65536 * 4 := Nat.mul_le_mul hn this
            omega
          dsimp only
          rw [hlen]
          by_cases h0 : n * kd.sz = 0
          · have hr0 : ∀ f : Nat → Value, (Array.range 0).map f = #[] := fun f => by rw [Array.range_zero']; simp
            rw [h0, hr0] at hf1
            simp [Instr.buildSlice, run_underlying (hT.sl t e he), sizeOf, typeInfo, hi, hsz, h0, newRow, hr0, hf1]
          · simp [Instr.buildSlice, run_underlying (hT.sl t e he), sizeOf, typeInfo, zeroValue, hi, hz, hsz, h0, hsmall, newRow, hf1]
      · cases h
    · cases h
  · cases h

theorem does_makeSlice (hT : TOK P T) {o : Oper} {s : St} {k : AV → Hp → R} {out : Out} {t : Nat} {l c : Operand} (hop : o.op = .makeSlice t l c) (h : opK T false (.makeSlice t l c) s k = some out) :
    ∃ av H', k av H' = some out ∧ Does P o s av H' := by
  unfold opK at h
  simp only [cond_false] at h
  split at h
  · rename_i e q1 n q2 m he hl hc
    split at h
    · rename_i kd hkd
      cases hn : decide (0 ≤ n ∧ n = m ∧ n ≤ 1099511627776) with
      | false => rw [hn] at h; cases h
      | true =>
        rw [hn] at h
        obtain ⟨h0, rfl, hle⟩ := of_decide_eq_true hn
        refine ⟨_, _, h, does_fresh ?_⟩
        intro a w Pr ρ cargs hp hH ho
        obtain ⟨i, z, d, hi, hsz, hz, hze, hby, _⟩ := hT.ek e kd hkd
        have h1 : a.eval l = .int q1 n := ho.fv l (by rw [hop]; simp [Op.operands]) _ hl
        have h2 : a.eval c = .int q2 n := ho.fv c (by rw [hop]; simp [Op.operands]) _ hc
        refine ⟨Instr.makeSlice t (a.eval l) (a.eval c), (Array.range (n.toNat * kd.sz)).map (z.cells[· % z.cells.size]!), by rw [exec_eq hop]; rfl, ?_, madeCells_rep hze n.toNat, by simp; unfold maxLen; omega⟩
        have hb : (i.bytes : Int) * n ≤ 281474976710656 := by
          have h3 : (i.bytes : Int) * n ≤ 64 * n := Int.mul_le_mul_of_nonneg_right (by omega) h0
          omega
        have hr := run_make (P := P) w t e i z (hT.sl t e he) hi hz q1 q2 n n h0 (Int.le_refl _) hb (by omega)
        rw [h1, h2, hr]
        simp [madeCells, hsz]
    · cases h
  · cases h

theorem does_alloc (hT : TOK P T) {o : Oper} {s : St} {k : AV → Hp → R} {out : Out} {t : Nat} (hop : o.op = .alloc t) (h : opK T false (.alloc t) s k = some out) :
    ∃ av H', k av H' = some out ∧ Does P o s av H' := by
  unfold opK at h
  simp only [cond_false] at h
  split at h
  · rename_i kd hkd
    refine ⟨_, _, h, does_box ?_⟩
    intro a w Pr ρ cargs hp hH ho
    obtain ⟨i, z, d, hi, hsz, hz, hze, hby, _⟩ := hT.ek t kd hkd
    obtain ⟨zs, h1, h2⟩ := ElR.cells hze
    refine ⟨Instr.alloc t true (.tuple #[]), z.cells, by rw [exec_eq hop]; rfl, ?_, by rw [h1]; exact h2⟩
    simp [Instr.alloc, zeroValue, typeInfo, hi, hz, newVar, newRow]
  · cases h

theorem does_boxed {o : Oper} {s : St} {k : AV → Hp → R} {out : Out} {t : Nat} {x : Operand} (hop : o.op = .box t x) (h : opK T false (.box t x) s k = some out) :
    ∃ av H', k av H' = some out ∧ Does P o s av H' := by
  unfold opK at h
  simp only [cond_false] at h
  split at h
  · rename_i kd e hkd he
    split at h
    · rename_i y hy
      refine ⟨_, _, h, does_box ?_⟩
      intro a w Pr ρ cargs hp hH ho
      have hx : ElR e (a.eval x) := ho.fv x (by rw [hop]; simp [Op.operands]) _ he
      rw [← K.g_f hy] at hx
      obtain ⟨zs, h1, h2⟩ := ElR.cells hx
      refine ⟨Instr.box t (a.eval x), (a.eval x).cells, by rw [exec_eq hop]; rfl, ?_, by rw [h1]; exact h2⟩
      simp [Instr.box, newVar, newRow]
    · cases h
  · cases h

/-! ### Writing -/

theorem flat_set1 {α β : Type} (f : α → List β) (n : Nat) (hf : ∀ a, (f a).length = n) : ∀ (xs : List α) (i j : Nat) (a b : α) (s : β), xs[i]? = some a → f b = (f a).set j s → j < n →
    (xs.set i b).flatMap f = (xs.flatMap f).set (i * n + j) s
  | [], i, j, a, b, s, h, _, _ => by simp at h
  | x :: xs, 0, j, a, b, s, h, hb, hj => by
    simp at h
    subst h
    simp only [List.set_cons_zero, List.flatMap_cons, Nat.zero_mul, Nat.zero_add, hb]
    rw [List.set_append_left _ _ (by rw [hf]; exact hj)]
  | x :: xs, i + 1, j, a, b, s, h, hb, hj => by
    have ih := flat_set1 f n hf xs i j a b s (by simpa using h) hb hj
    have e : (i + 1) * n + j = n + (i * n + j) := by rw [Nat.add_mul]; omega
    simp only [List.set_cons_succ, List.flatMap_cons, ih, e]
    rw [List.set_append_right _ _ (by rw [hf]; omega), hf, Nat.add_sub_cancel_left]

theorem take_mid {α : Type} (L vs : List α) (off N : Nat) (h1 : off + vs.length ≤ N) (h2 : N ≤ L.length) :
    (L.take off ++ vs ++ L.drop (off + vs.length)).take N = (L.take N).take off ++ vs ++ (L.take N).drop (off + vs.length) := by
  have hl : (L.take off ++ vs).length = off + vs.length := by simp; omega
  rw [List.take_append, List.take_of_length_le (by rw [hl]; exact h1), hl, List.take_take, Nat.min_eq_left (by omega), List.drop_take]

/-- Cells of a row that are written. -/
theorem write_row {w : World} {b e size n : Nat} {v : Value} {xs : List Value} {g : Nat} (h : w.ownsRow b e size v n xs) (hg : v.ownBlock = some g) (off : Nat) (vs : List Value) (hl : off + vs.length ≤ xs.length) (h1 : ∀ u ∈ vs, u.oneCell' = true) :
    ∃ w', (storeCells ⟨g, off, none⟩ vs).run P w = .ok () w' ∧ w'.ownsRow b e size v n (xs.take off ++ vs ++ xs.drop (off + vs.length)) ∧ (∀ k, k ≠ g → w'.heap[k]? = w.heap[k]?) ∧
      w'.os = w.os ∧ w'.tape = w.tape ∧ w'.output = w.output ∧ w'.heap.size = w.heap.size := by
  obtain ⟨hx, h2⟩ := h
  rcases h2 with ⟨rfl, _⟩ | ⟨g', cap, cur, rfl, hb, hgg, hnc, hcm, hcs, htake⟩
  · simp [Value.ownBlock] at hg
  · simp only [Value.ownBlock, Option.some.injEq] at hg
    subst hg
    have hxl : xs.length ≤ cur.size := by rw [← htake]; simp; omega
    have hst := run_storeCells_at P g' off e vs 0 cur w hgg (by omega) h1
    simp only [Nat.add_zero] at hst
    refine ⟨_, hst, ⟨?_, .inr ⟨g', cap, _, rfl, hb, setRow_heap w g' cur _ e _ hgg, hnc, hcm, ?_, ?_⟩⟩, fun k hk => setRow_other w g' k _ hk, rfl, rfl, rfl, by simp⟩
    · simp only [List.length_append, List.length_take, List.length_drop]
      omega
    · simp only [List.size_toArray, List.length_append, List.length_take, List.length_drop, Array.length_toList]
      omega
    · have hns : n * size ≤ cur.size := by rw [hcs]; exact Nat.mul_le_mul_right _ hnc
      rw [hx] at hl
      rw [← htake]
      exact take_mid cur.toList vs off (n * size) hl (by simpa using hns)

theorem rowAt_set {H : Hp} {r r' : Nat} {x : Option Row} {row : Row} (h : rowAt (H.set r x) r' = some row) : (r ≠ r' ∧ rowAt H r' = some row) ∨ (r = r' ∧ x = some row) := by
  unfold rowAt at *
  split at h
  · rename_i row' hr
    cases h
    rw [List.getElem?_set] at hr
    by_cases e : r = r'
    · rw [if_pos e] at hr
      split at hr
      · simp only [Option.some.injEq] at hr
        exact .inr ⟨e, hr⟩
      · cases hr
    · rw [if_neg e] at hr
      exact .inl ⟨e, by rw [hr]⟩
  · cases h

theorem setElt_ok {k : K} {a b : k.ty} {whole : Bool} {j : Nat} {x : Elt} (h : setElt k a whole j x = some b) :
    (whole = true ∧ k.f b = x) ∨ (whole = false ∧ ∃ c, x = .sc c ∧ (k.f b).cells = (k.f a).cells.set j c) := by
  unfold setElt at h
  cases whole with
  | true => exact .inl ⟨rfl, K.g_f h⟩
  | false =>
    simp only [cond_false] at h
    split at h
    · rename_i c
      exact .inr ⟨rfl, c, rfl, by rw [K.g_f h]; rfl⟩
    · cases h

theorem does_store (hT : TOK P T) {o : Oper} {s : St} {k : AV → Hp → R} {out : Out} {t : Nat} {x y : Operand} (hop : o.op = .store t x y) (h : opK T false (.store t x y) s k = some out) :
    ∃ av H', k av H' = some out ∧ Does P o s av H' := by
  unfold opK at h
  simp only [cond_false] at h
  split at h
  · rename_i p v hp hv
    unfold storeK at h
    split at h
    · rename_i q r e hq hb
      split at h
      · rename_i row hrow
        split at h
        · rename_i a ha
          split at h
          · rename_i b hset
            cases hc : (Nat.beq e.cells.length q.sz && Nat.beq p.sz row.v.k.sz && decide (p.j < row.v.k.sz)) with
            | false => rw [hc] at h; cases h
            | true =>
              rw [hc] at h
              simp only [Bool.and_eq_true, decide_eq_true_eq] at hc
              have hc1 : e.cells.length = q.sz := Nat.eq_of_beq_eq_true hc.1.1
              have hc2 : p.sz = row.v.k.sz := Nat.eq_of_beq_eq_true hc.1.2
              have hc3 : p.j < row.v.k.sz := hc.2
              refine ⟨_, _, h, ?_⟩
              intro act w Pr ρ cargs hpr hH ho
              obtain ⟨i, z, d, hi, hsz, hz, hze, hby, _⟩ := hT.ek t q hq
              have hx := ho.fv x (by rw [hop]; simp [Op.operands]) _ hp
              have hy : ElR e (act.eval y) := ho.fv y (by rw [hop]; simp [Op.operands]) _ hv
              obtain ⟨us, hu1, hu2⟩ := ElR.cells hy
              have hul : us.length = q.sz := by rw [← hu2.length]; exact hc1
              -- the pointer
              have hx2 : PtR w Pr ρ p (act.eval x) := hx
              unfold PtR at hx2
              rw [hb] at hx2
              dsimp only at hx2
              obtain ⟨vr, g, hr1, hr2, hr3⟩ := hx2
              obtain ⟨vr', hr1', vs, hown, hvs, hnp⟩ := hH.row r row hrow
              rw [hr1] at hr1'
              cases hr1'
              have hlen : vs.length = row.v.xs.length * row.v.k.sz := hown.1
              have hilt : p.i < row.v.xs.length := by
                rcases Nat.lt_or_ge p.i row.v.xs.length with h' | h'
                · exact h'
                · rw [List.getElem?_eq_none h'] at ha; cases ha
              have hle : p.i * row.v.k.sz + row.v.k.sz ≤ vs.length := by
                rw [hlen]
                calc p.i * row.v.k.sz + row.v.k.sz = (p.i + 1) * row.v.k.sz := by rw [Nat.add_mul]; omega
                  _ ≤ row.v.xs.length * row.v.k.sz := Nat.mul_le_mul_right _ hilt
              -- how many cells are written, and what they are then
              have hnew : p.i * p.sz + p.j + us.length ≤ vs.length ∧ AllR SCR (Vec.cells ⟨row.v.k, row.v.xs.set p.i b⟩) (vs.take (p.i * p.sz + p.j) ++ us ++ vs.drop (p.i * p.sz + p.j + us.length)) := by
                rw [hc2]
                rcases setElt_ok hset with ⟨hw, hfb⟩ | ⟨hw, c, rfl, hfb⟩
                · rw [Bool.and_eq_true] at hw
                  have hqk : q = row.v.k := of_decide_eq_true hw.1
                  have hj : p.j = 0 := Nat.eq_of_beq_eq_true hw.2
                  have hus : us.length = row.v.k.sz := by rw [hul, hqk]
                  rw [hj, Nat.add_zero, hus]
                  refine ⟨hle, ?_⟩
                  unfold Vec.cells
                  rw [flat_set _ _ row.v.k.len_f row.v.xs p.i b hilt]
                  have : AllR SCR (row.v.k.f b).cells us := by rw [hfb]; exact hu2
                  exact ((hvs.take _).append this).append (hvs.drop _)
                · obtain ⟨u, rfl, hcu⟩ := AllR.one (show AllR SCR [c] us from hu2)
                  refine ⟨by simp; omega, ?_⟩
                  unfold Vec.cells
                  rw [flat_set1 _ _ row.v.k.len_f row.v.xs p.i p.j a b c ha hfb hc3]
                  have hset2 : vs.take (p.i * row.v.k.sz + p.j) ++ [u] ++ vs.drop (p.i * row.v.k.sz + p.j + [u].length) = vs.set (p.i * row.v.k.sz + p.j) u := by
                    rw [List.set_eq_take_append_cons_drop, if_pos (by omega)]
                    simp
                  rw [hset2]
                  exact hvs.set _ hcu
              obtain ⟨w', hst, hown', hoth, hos, htape, hout, hsize⟩ := write_row (P := P) hown hr2 (p.i * p.sz + p.j) us hnew.1 (fun u hu => by
                obtain ⟨j, hj⟩ := List.getElem?_of_mem hu
                obtain ⟨c, _, hcu⟩ := hu2.getR j u hj
                exact hcu.one)
              unfold Yields
              rw [exec_eq hop]
              have hrun : (Instr.storeAt t (act.eval x) (act.eval y)).run P w = .ok () w' := by
                rw [hr3]
                simp [Instr.storeAt, Instr.sureAddr, storeVar, hu1, sizeOf, typeInfo, hi, hsz, hul, hst]
              simp only [execOp, Sem.run_bind, hrun, Result.andThen_ok, Sem.run_pure]
              refine ⟨ρ, fun _ _ h => h, rfl, ?_, ⟨hos, htape, hout, by omega, fun j hj => hoth j (fun e => hnp g hr2 (e ▸ hj))⟩⟩
              refine ⟨by rw [List.length_set]; exact hH.len, fun r' row' hrow' => ?_, fun r1 r2 row1 row2 v1 v2 g' hne h1 h2 h3 h4 h5 => ?_⟩
              · rcases rowAt_set hrow' with ⟨hne, hold⟩ | ⟨rfl, hnew'⟩
                · obtain ⟨v', hv', hrr⟩ := hH.row r' row' hold
                  refine ⟨v', hv', hrr.keep fun g' hg' => hoth g' ?_⟩
                  intro e
                  subst e
                  exact hH.apart r r' row row' vr v' _ hne hrow hold hr1 hv' hr2 hg'
                · cases hnew'
                  refine ⟨vr, hr1, _, ?_, hnew.2, hnp⟩
                  have : (row.v.xs.set p.i b).length = row.v.xs.length := by simp
                  dsimp only
                  rw [this]
                  exact hown'
              · have key : ∀ {r' : Nat} {row' : Row}, rowAt (List.set s.H r (some ⟨row.e, ⟨row.v.k, row.v.xs.set p.i b⟩⟩)) r' = some row' → ∃ row'', rowAt s.H r' = some row'' := by
                  intro r' row' h
                  rcases rowAt_set h with ⟨_, h⟩ | ⟨rfl, _⟩
                  · exact ⟨_, h⟩
                  · exact ⟨_, hrow⟩
                obtain ⟨row1', h1'⟩ := key h1
                obtain ⟨row2', h2'⟩ := key h2
                exact hH.apart r1 r2 row1' row2' v1 v2 g' hne h1' h2' h3 h4 h5
          · cases h
        · cases h
      · cases h
    · cases h
  · cases h

end
end Go.Sm
