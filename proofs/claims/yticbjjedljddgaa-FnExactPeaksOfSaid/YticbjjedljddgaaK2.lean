/- A machine on plain data, its laws: part 2. -/
import Derived.Test.YticbjjedljddgaaK1
namespace Go.Sm
open Go Go.RowKit
section
variable {P : Program} {T : TT}
def Does (P : Program) (o : Oper) (s : St) (av : AV) (H' : Hp) : Prop :=
  ∀ (a : Act) (w : World) (Pr : Nat → Prop) (ρ cargs : List Value), (∀ k, Pr k → k < w.heap.size) → HR w Pr ρ s.H → Opd Pr w ρ cargs s a o.op →
    Yields P o a w fun v w' => ∃ ρ', (∀ (r : Nat) (u : Value), ρ[r]? = some u → ρ'[r]? = some u) ∧ AVR w' Pr ρ' cargs av v ∧ HR w' Pr ρ' H' ∧ Keep Pr w w'
theorem Quiet.does {o : Oper} {s : St} {av : AV} (h : Quiet P o s av) : Does P o s av s.H := by
  intro a w Pr ρ cargs hp hH ho
  exact (h a w Pr ρ cargs hp hH ho).mono fun v w' ⟨h1, h2⟩ => ⟨ρ, fun _ _ h => h, h1.same h2 hp, hH.keep h2.block, Keep.of_below h2 hp⟩
theorem cast_ok {v : Vec} {q : K} {ys : List q.ty} (h : v.cast q = some ys) : v = ⟨q, ys⟩ := by
  obtain ⟨k, xs⟩ := v
  unfold Vec.cast at h
  dsimp only at h
  split at h
  · rename_i e
    subst e
    cases h
    rfl
  · cases h
theorem getElem?_push_old {ρ : List Value} {v u : Value} {r : Nat} (h : ρ[r]? = some u) : (ρ ++ [v])[r]? = some u := by
  have hl : r < ρ.length := by
    rcases Nat.lt_or_ge r ρ.length with h' | h'
    · exact h'
    · rw [List.getElem?_eq_none h'] at h; cases h
  rw [List.getElem?_append_left hl]
  exact h
theorem at_push {H : Hp} {x : Option Row} {r : Nat} {row : Row} (hr : (H ++ [x])[r]? = some (some row)) : H[r]? = some (some row) ∨ (r = H.length ∧ x = some row) := by
  rw [List.getElem?_append] at hr
  split at hr
  · exact .inl hr
  · rename_i hl
    have : r = H.length := by
      by_cases e : r - H.length = 0
      · omega
      · obtain ⟨q, hq⟩ : ∃ q, r - H.length = q + 1 := ⟨r - H.length - 1, by omega⟩
        rw [hq] at hr
        simp at hr
    subst this
    simp at hr
    exact .inr ⟨rfl, hr⟩
theorem at_set {H : Hp} {r r' : Nat} {x : Option Row} {row : Row} (hr : (H.set r x)[r']? = some (some row)) : (r ≠ r' ∧ H[r']? = some (some row)) ∨ (r = r' ∧ x = some row) := by
  rw [List.getElem?_set] at hr
  by_cases e : r = r'
  · rw [if_pos e] at hr
    split at hr
    · simp only [Option.some.injEq] at hr
      exact .inr ⟨e, hr⟩
    · cases hr
  · rw [if_neg e] at hr
    exact .inl ⟨e, hr⟩
theorem rowAt_push {H : Hp} {x : Option Row} {r : Nat} {row : Row} (h : rowAt (H ++ [x]) r = some row) : rowAt H r = some row ∨ (r = H.length ∧ x = some row) := by
  obtain ⟨hk, hr⟩ := rowAt_no h
  rcases at_push hr with h1 | h1
  · exact .inl (rowAt_of h1 hk)
  · exact .inr h1
theorem llAt_push {H : Hp} {x : Option Row} {r : Nat} {row : Row} (h : llAt (H ++ [x]) r = some row) : llAt H r = some row ∨ (r = H.length ∧ x = some row ∧ row.v.k.is2 = true) := by
  obtain ⟨hk, hr⟩ := llAt_is2 h
  rcases at_push hr with h1 | h1
  · exact .inl (llAt_of h1 hk)
  · exact .inr ⟨h1.1, h1.2, hk⟩
theorem alAt_push {H : Hp} {x : Option Row} {r : Nat} {p : Nat × Nat} (h : alAt (H ++ [x]) r = some p) : alAt H r = some p ∨ (r = H.length ∧ ∃ e, x = some ⟨e, ⟨.al, [p]⟩⟩) := by
  obtain ⟨e, hr⟩ := alAt_at h
  rcases at_push hr with h1 | h1
  · exact .inl (alAt_of h1)
  · exact .inr ⟨h1.1, e, h1.2⟩
theorem alAt_lt {H : Hp} {r : Nat} {p : Nat × Nat} (h : alAt H r = some p) : r < H.length := by
  obtain ⟨e, hr⟩ := alAt_at h
  rcases Nat.lt_or_ge r H.length with h' | h'
  · exact h'
  · rw [List.getElem?_eq_none h'] at hr; cases hr
theorem llAt_lt {H : Hp} {r : Nat} {row : Row} (h : llAt H r = some row) : r < H.length := by
  obtain ⟨_, hr⟩ := llAt_is2 h
  rcases Nat.lt_or_ge r H.length with h' | h'
  · exact h'
  · rw [List.getElem?_eq_none h'] at hr; cases hr
theorem rowAt_lt {H : Hp} {r : Nat} {row : Row} (h : rowAt H r = some row) : r < H.length := by
  obtain ⟨_, hr⟩ := rowAt_is2 h
  rcases Nat.lt_or_ge r H.length with h' | h'
  · exact h'
  · rw [List.getElem?_eq_none h'] at hr; cases hr
theorem LLR.push {w w' : World} {Pr : Nat → Prop} {ρ : List Value} {H : Hp} {v : Value} {e : Nat} {vec : Vec} (h : LLR w Pr ρ H) (hlen : ρ.length = H.length) (hsz : w.heap.size ≤ w'.heap.size) (hk : (vec.k.is2 || vec.k.isAl) = false)
    (hheap : ∀ g, g < w.heap.size → (∀ (r : Nat) (row : Row) (v : Value), rowAt H r = some row → ρ[r]? = some v → v.ownBlock ≠ some g) → w'.heap[g]? = w.heap[g]?)
    (hn : ∀ g, v.ownBlock = some g → w.heap.size ≤ g ∨ ∃ r0 row0 v0, rowAt H r0 = some row0 ∧ ρ[r0]? = some v0 ∧ v0.ownBlock = some g) : LLR w' Pr (ρ ++ [v]) (H ++ [some ⟨e, vec⟩]) := by
  refine h.step hsz hheap (fun r row hr => ?_) (fun r p hr => ?_) fun r row u g h1 h2 h3 => ?_
  · rcases llAt_push hr with h1 | ⟨_, h1, h2⟩
    · exact ⟨h1, List.getElem?_append_left (by rw [hlen]; exact llAt_lt h1)⟩
    · cases h1
      rw [h2] at hk
      cases hk
  · rcases alAt_push hr with h1 | ⟨_, e', h1⟩
    · exact ⟨h1, List.getElem?_append_left (by rw [hlen]; exact alAt_lt h1)⟩
    · cases h1
      cases hk
  · rcases rowAt_push h1 with h4 | ⟨rfl, h4⟩
    · rw [List.getElem?_append_left (by rw [hlen]; exact rowAt_lt h4)] at h2
      exact .inr ⟨r, row, u, h4, h2, h3⟩
    · rw [← hlen] at h2
      simp at h2
      subst h2
      exact hn g h3
theorem HR.push {w w' : World} {Pr : Nat → Prop} {ρ : List Value} {H : Hp} {v : Value} {e : Nat} {vec : Vec} (hH : HR w Pr ρ H) (hs : ∀ k, k < w.heap.size → w'.heap[k]? = w.heap[k]?)
    (hr : RowR w' Pr v e vec) (hk : (vec.k.is2 || vec.k.isAl) = false) (hn : ∀ g, v.ownBlock = some g → w.heap.size ≤ g) : HR w' Pr (ρ ++ [v]) (H ++ [some ⟨e, vec⟩]) := by
  have hH' := hH.keep hs
  refine ⟨by simp [hH.len], fun r row hrow => ?_, fun r r' row row' u u' g hne h1 h2 h3 h4 h5 h6 => ?_, hH.ll.push hH.len (size_same hs) hk (fun g hg _ => hs g hg) fun g hg => .inl (hn g hg)⟩
  · rcases rowAt_push hrow with h | ⟨rfl, h⟩
    · obtain ⟨u, h1, h2⟩ := hH'.row r row h
      exact ⟨u, getElem?_push_old h1, h2⟩
    · cases h
      exact ⟨v, by rw [← hH.len]; simp, hr⟩
  · rcases rowAt_push h1 with a | ⟨ra, a⟩ <;> rcases rowAt_push h2 with b | ⟨rb, b⟩
    · obtain ⟨x, hx, _⟩ := hH.row r row a
      obtain ⟨y, hy, _⟩ := hH.row r' row' b
      have hx' := getElem?_push_old (v := v) hx
      have hy' := getElem?_push_old (v := v) hy
      rw [h3] at hx'
      rw [h4] at hy'
      cases hx'
      cases hy'
      exact hH.apart r r' row row' _ _ g hne a b hx hy h5 h6
    · obtain ⟨x, hx, hxr⟩ := hH.row r row a
      have hx' := getElem?_push_old (v := v) hx
      rw [h3] at hx'
      cases hx'
      subst rb
      rw [← hH.len] at h4
      simp at h4
      subst h4
      have := hn g h6
      have := hxr.lt h5
      omega
    · obtain ⟨y, hy, hyr⟩ := hH.row r' row' b
      have hy' := getElem?_push_old (v := v) hy
      rw [h4] at hy'
      cases hy'
      subst ra
      rw [← hH.len] at h3
      simp at h3
      subst h3
      have := hn g h5
      have := hyr.lt h6
      omega
    · omega
theorem old_push {ρ : List Value} (v : Value) : ∀ (r : Nat) (u : Value), ρ[r]? = some u → (ρ ++ [v])[r]? = some u := fun _ _ h => getElem?_push_old h
theorem heap_old (w : World) (o : Obj) : ∀ k, k < w.heap.size → (w.alloc o).heap[k]? = w.heap[k]? := fun k hk => Below.heap_alloc w o k hk
theorem keep_alloc {w : World} {Pr : Nat → Prop} (hp : ∀ k, Pr k → k < w.heap.size) (o : Obj) : Keep Pr w (w.alloc o) :=
  Keep.of_below ((Below.refl _ _).alloc (Nat.le_refl _) o) hp
theorem RowR.fresh {w : World} {Pr : Nat → Prop} (hp : ∀ k, Pr k → k < w.heap.size) {e : Nat} {vec : Vec} {cells : Array Value} (hc : AllR SCR vec.cells cells.toList) (hl : vec.xs.length ≤ maxLen) :
    RowR (w.alloc (.cells cells e)) Pr (.slice (some ⟨w.heap.size, 0, none⟩) vec.xs.length vec.xs.length) e vec := by
  have hlen : cells.toList.length = vec.xs.length * vec.k.sz := by rw [← hc.length, vec.len_cells]
  refine ⟨cells.toList, ⟨hlen, .inr ⟨w.heap.size, vec.xs.length, cells, rfl, Nat.zero_le _, heap_alloc_new w _, Nat.le_refl _, hl, by rw [← hlen]; simp, ?_⟩⟩, hc, ?_⟩
  · rw [← hlen]; exact List.take_length
  · intro g hg
    simp only [Value.ownBlock, Option.some.injEq] at hg
    subst hg
    intro h
    exact Nat.lt_irrefl _ (hp _ h)
theorem HR.push2 {w w' : World} {Pr : Nat → Prop} {ρ : List Value} {H : Hp} {v : Value} {e : Nat} {vec : Vec} {z : (k : K) × List (List k.ty)} {us : List Value} {I0 : Nat → Prop} (hH : HR w Pr ρ H) (hp : ∀ k, Pr k → k < w.heap.size)
    (hs : ∀ k, k < w.heap.size → w'.heap[k]? = w.heap[k]?) (hz : vec.two = some z) (hown : w'.ownsRow 0 e 1 v z.2.length us) (hin : AllR (fun xs u => InnR w' I0 z.1 xs u) z.2 us) (hdi : DistR us) (hd : ∀ g, v.ownBlock = some g → ¬ I0 g)
    (hnew : ∀ g, (I0 g ∨ v.ownBlock = some g) → w.heap.size ≤ g ∧ g < w'.heap.size) : HR w' Pr (ρ ++ [v]) (H ++ [some ⟨e, vec⟩]) := by
  have hH' := hH.keep hs
  have hk := two_is2 hz
  have hsz := size_same hs
  have old : ∀ {r : Nat} {row : Row}, rowAt (H ++ [some ⟨e, vec⟩]) r = some row → rowAt H r = some row := by
    intro r row h
    rcases rowAt_push h with h1 | ⟨_, h2⟩
    · exact h1
    · cases h2
      have := (rowAt_is2 h).1
      rw [hk] at this
      cases this
  have get : ∀ {r : Nat} {row : Row} {u : Value}, rowAt H r = some row → (ρ ++ [v])[r]? = some u → ρ[r]? = some u := by
    intro r row u h1 h2
    rw [List.getElem?_append_left (by rw [hH.len]; exact rowAt_lt h1)] at h2
    exact h2
  have getl : ∀ {r : Nat} {row : Row} {u : Value}, llAt H r = some row → (ρ ++ [v])[r]? = some u → ρ[r]? = some u := by
    intro r row u h1 h2
    rw [List.getElem?_append_left (by rw [hH.len]; exact llAt_lt h1)] at h2
    exact h2
  have lastv : ∀ {u : Value}, (ρ ++ [v])[H.length]? = some u → u = v := by
    intro u h
    rw [← hH.len] at h
    simp at h
    exact h.symm
  obtain ⟨I, hI⟩ := hH.ll
  refine ⟨by simp [hH.len], fun r row h => ?_, fun r r' row row' u u' g hne h1 h2 h3 h4 h5 => ?_, fun r g => (r = H.length ∧ I0 g) ∨ (r ≠ H.length ∧ I r g), fun r row z' h1 h2 => ?_⟩
  · obtain ⟨u, a1, a2⟩ := hH'.row r row (old h)
    exact ⟨u, getElem?_push_old a1, a2⟩
  · exact hH'.apart r r' row row' u u' g hne (old h1) (old h2) (get (old h1) h3) (get (old h2) h4) h5
  · rcases llAt_push h1 with a | ⟨rfl, a, _⟩
    · have hr : r ≠ H.length := Nat.ne_of_lt (llAt_lt a)
      obtain ⟨u, us', b1, b2, b3, bd, ba, b4, b5⟩ := hI r row z' a h2
      have hkp : ∀ g, (I r g ∨ u.ownBlock = some g) → w'.heap[g]? = w.heap[g]? := fun g hg => hs g (b5 g hg).1
      refine ⟨u, us', getElem?_push_old b1, ownsRow_keep (fun g hg => hkp g (.inr hg)) b2, b3.mono fun xs y hy => (hy.keep fun g hg => hkp g (.inl hg)).mono fun g hg => .inr ⟨hr, hg⟩, bd, ?_, ?_, ?_⟩
      · intro j i hj hlt
        rcases alAt_push hj with h | ⟨_, e', h⟩
        · obtain ⟨y, y1, y2⟩ := ba j i h hlt
          exact ⟨y, getElem?_push_old y1, y2⟩
        · cases h
          cases hk
      · rintro g hg (⟨e1, _⟩ | ⟨_, h⟩)
        · exact hr e1
        · exact b4 g hg h
      · intro g hg
        have hg' : I r g ∨ u.ownBlock = some g := by
          rcases hg with (⟨e1, _⟩ | ⟨_, h⟩) | h
          · exact absurd e1 hr
          · exact .inl h
          · exact .inr h
        obtain ⟨c1, c2, c3, c4⟩ := b5 g hg'
        refine ⟨by omega, c2, fun r' row' v' d1 d2 => c3 r' row' v' (old d1) (get (old d1) d2), fun r' row' v' d0 d1 d2 => ?_⟩
        rcases llAt_push d1 with d | ⟨rfl, _, _⟩
        · obtain ⟨e1, e2⟩ := c4 r' row' v' d0 d (getl d d2)
          refine ⟨?_, e2⟩
          rintro (⟨e3, _⟩ | ⟨_, h⟩)
          · exact absurd e3 (Nat.ne_of_lt (llAt_lt d))
          · exact e1 h
        · have := lastv d2
          subst this
          refine ⟨?_, ?_⟩
          · rintro (⟨_, h⟩ | ⟨h, _⟩)
            · have := (hnew g (.inl h)).1
              omega
            · exact h rfl
          · intro h
            have := (hnew g (.inr h)).1
            omega
    · cases a
      have : z' = z := by rw [hz] at h2; cases h2; rfl
      subst this
      refine ⟨v, us, by rw [← hH.len]; simp, hown, hin.mono fun xs y hy => hy.mono fun g hg => .inl ⟨rfl, hg⟩, hdi, ?_, ?_, ?_⟩
      · intro j i hj hlt
        rcases alAt_push hj with h | ⟨_, e', h⟩
        · have := alAt_lt h
          omega
        · cases h
          cases hk
      · rintro g hg (⟨_, h⟩ | ⟨h, _⟩)
        · exact hd g hg h
        · exact h rfl
      · intro g hg
        have hg' : I0 g ∨ v.ownBlock = some g := by
          rcases hg with (⟨_, h⟩ | ⟨h, _⟩) | h
          · exact .inl h
          · exact absurd rfl h
          · exact .inr h
        obtain ⟨c1, c2⟩ := hnew g hg'
        refine ⟨c2, fun hpr => by have := hp g hpr; omega, fun r' row' v' d1 d2 h => ?_, fun r' row' v' d0 d1 d2 => ?_⟩
        · obtain ⟨u2, f1, f2⟩ := hH.row r' row' (old d1)
          rw [get (old d1) d2] at f1
          cases f1
          have := f2.lt h
          omega
        · rcases llAt_push d1 with d | ⟨e3, _, _⟩
          · obtain ⟨z2, hz2⟩ := two_some (llAt_is2 d).1
            obtain ⟨u2, _, f1, _, _, _, _, _, f5⟩ := hI r' row' z2 d hz2
            rw [getl d d2] at f1
            cases f1
            refine ⟨?_, fun h => ?_⟩
            · rintro (⟨e4, _⟩ | ⟨_, h⟩)
              · exact d0 e4
              · have := (f5 g (.inl h)).1
                omega
            · have := (f5 g (.inr h)).1
              omega
          · exact absurd e3 d0
theorem alAt_set {H : Hp} {r r' : Nat} {x : Option Row} {p : Nat × Nat} (h : alAt (H.set r x) r' = some p) : (r ≠ r' ∧ alAt H r' = some p) ∨ (r = r' ∧ ∃ e, x = some ⟨e, ⟨.al, [p]⟩⟩) := by
  obtain ⟨e, hr⟩ := alAt_at h
  rcases at_set hr with ⟨h1, h2⟩ | h1
  · exact .inl ⟨h1, alAt_of h2⟩
  · exact .inr ⟨h1.1, e, h1.2⟩
theorem noAl_spec : ∀ {H : Hp}, noAl H = true → ∀ r, alAt H r = none
  | [], _, r => by cases r <;> rfl
  | x :: H, h, r => by
    have key : alAt (x :: H) 0 = none ∧ noAl H = true := by
      unfold noAl at h
      split at h
      · rename_i heq; cases heq
      · cases h
      · rename_i y H' hne heq
        cases heq
        refine ⟨?_, h⟩
        cases hx : alAt (x :: H) 0 with
        | none => rfl
        | some p =>
          obtain ⟨e, hr⟩ := alAt_at hx
          simp at hr
          exact absurd hr (fun hr => hne e [p] hr)
    cases r with
    | zero => exact key.1
    | succ r => exact (alAt_same (H := x :: H) (H' := H) (r := r + 1) (r' := r) (by simp)).trans (noAl_spec key.2 r)
theorem rowAt_set {H : Hp} {r r' : Nat} {x : Option Row} {row : Row} (h : rowAt (H.set r x) r' = some row) : (r ≠ r' ∧ rowAt H r' = some row) ∨ (r = r' ∧ x = some row) := by
  obtain ⟨hk, hr⟩ := rowAt_no h
  rcases at_set hr with ⟨h1, h2⟩ | h1
  · exact .inl ⟨h1, rowAt_of h2 hk⟩
  · exact .inr h1
theorem llAt_set {H : Hp} {r r' : Nat} {x : Option Row} {row : Row} (h : llAt (H.set r x) r' = some row) : (r ≠ r' ∧ llAt H r' = some row) ∨ (r = r' ∧ x = some row) := by
  obtain ⟨hk, hr⟩ := llAt_is2 h
  rcases at_set hr with ⟨h1, h2⟩ | h1
  · exact .inl ⟨h1, llAt_of h2 hk⟩
  · exact .inr h1
def OB (I : Nat → Nat → Prop) (ρ : List Value) (H : Hp) (q g : Nat) : Prop :=
  (∃ row v, rowAt H q = some row ∧ ρ[q]? = some v ∧ v.ownBlock = some g) ∨ ∃ row v, llAt H q = some row ∧ ρ[q]? = some v ∧ (I q g ∨ v.ownBlock = some g)
theorem OB.lt {w : World} {Pr : Nat → Prop} {ρ : List Value} {H : Hp} {I : Nat → Nat → Prop} (hH : HR w Pr ρ H) (hI : LLI I w Pr ρ H) {q g : Nat} (h : OB I ρ H q g) : g < w.heap.size ∧ ¬ Pr g := by
  rcases h with ⟨row, v, h1, h2, h3⟩ | ⟨row, v, h1, h2, h3⟩
  · obtain ⟨u, hu, hr⟩ := hH.row q row h1
    rw [h2] at hu
    cases hu
    obtain ⟨vs, _, _, h4⟩ := id hr
    exact ⟨hr.lt h3, h4 g h3⟩
  · obtain ⟨z, hz⟩ := two_some (llAt_is2 h1).1
    obtain ⟨u, us, a1, _, _, _, _, _, a5⟩ := hI q row z h1 hz
    rw [h2] at a1
    cases a1
    exact ⟨(a5 g h3).1, (a5 g h3).2.1⟩
theorem OB.uniq {w : World} {Pr : Nat → Prop} {ρ : List Value} {H : Hp} {I : Nat → Nat → Prop} (hH : HR w Pr ρ H) (hI : LLI I w Pr ρ H) {q q' g : Nat} (h : OB I ρ H q g) (h' : OB I ρ H q' g) : q = q' := by
  rcases h with ⟨row, v, h1, h2, h3⟩ | ⟨row, v, h1, h2, h3⟩
  · rcases h' with ⟨row', v', k1, k2, k3⟩ | ⟨row', v', k1, k2, k3⟩
    · exact Decidable.byContradiction fun hne => hH.apart q q' row row' v v' g hne h1 k1 h2 k2 h3 k3
    · obtain ⟨z, hz⟩ := two_some (llAt_is2 k1).1
      obtain ⟨u, us, a1, _, _, _, _, _, a5⟩ := hI q' row' z k1 hz
      rw [k2] at a1
      cases a1
      exact absurd h3 ((a5 g k3).2.2.1 q row v h1 h2)
  · obtain ⟨z, hz⟩ := two_some (llAt_is2 h1).1
    obtain ⟨u, us, a1, _, _, _, _, _, a5⟩ := hI q row z h1 hz
    rw [h2] at a1
    cases a1
    rcases h' with ⟨row', v', k1, k2, k3⟩ | ⟨row', v', k1, k2, k3⟩
    · exact absurd k3 ((a5 g h3).2.2.1 q' row' v' k1 k2)
    · refine Decidable.byContradiction fun hne => ?_
      obtain ⟨b1, b2⟩ := (a5 g h3).2.2.2 q' row' v' (fun e => hne e.symm) k1 k2
      rcases k3 with k3 | k3
      · exact b1 k3
      · exact b2 k3
theorem HR.consume {w w' : World} {Pr : Nat → Prop} {ρ : List Value} {H H2 : Hp} {I : Nat → Nat → Prop} (hH : HR w Pr ρ H) (hI : LLI I w Pr ρ H) (Rem : Nat → Prop) (hlen : H2.length = H.length)
    (hsub : ∀ (q : Nat) (x : Row), H2[q]? = some (some x) → ¬ Rem q ∧ H[q]? = some (some x)) (hna : noAl H = true)
    (hheap : ∀ g, g < w.heap.size → (∀ q, Rem q → ¬ OB I ρ H q g) → w'.heap[g]? = w.heap[g]?) (hsz : w.heap.size ≤ w'.heap.size)
    {v : Value} {e : Nat} {vec : Vec} {z : (k : K) × List (List k.ty)} {us : List Value} {I0 : Nat → Prop} (hz : vec.two = some z) (hown : w'.ownsRow 0 e 1 v z.2.length us) (hin : AllR (fun xs u => InnR w' I0 z.1 xs u) z.2 us) (hdi : DistR us) (hd : ∀ g, v.ownBlock = some g → ¬ I0 g)
    (hnew : ∀ g, (I0 g ∨ v.ownBlock = some g) → g < w'.heap.size ∧ ¬ Pr g ∧ (w.heap.size ≤ g ∨ ∃ q, Rem q ∧ OB I ρ H q g)) : HR w' Pr (ρ ++ [v]) (H2 ++ [some ⟨e, vec⟩]) := by
  have hk := two_is2 hz
  have hl : ρ.length = H2.length := hH.len.trans hlen.symm
  have rold : ∀ {r : Nat} {row : Row}, rowAt (H2 ++ [some ⟨e, vec⟩]) r = some row → ¬ Rem r ∧ rowAt H r = some row := by
    intro r row h
    rcases rowAt_push h with h1 | ⟨_, h2⟩
    · obtain ⟨a, b⟩ := rowAt_no h1
      obtain ⟨c, d⟩ := hsub r row b
      exact ⟨c, rowAt_of d a⟩
    · cases h2
      have := (rowAt_is2 h).1
      rw [hk] at this
      cases this
  have lold : ∀ {r : Nat} {row : Row}, llAt H2 r = some row → ¬ Rem r ∧ llAt H r = some row := by
    intro r row h1
    obtain ⟨a, b⟩ := llAt_is2 h1
    obtain ⟨c, d⟩ := hsub r row b
    exact ⟨c, llAt_of d a⟩
  have hnal : ∀ (j : Nat) (p : Nat × Nat), alAt (H2 ++ [some ⟨e, vec⟩]) j ≠ some p := by
    intro j p h
    rcases alAt_push h with h1 | ⟨_, e', h1⟩
    · obtain ⟨e1, h2⟩ := alAt_at h1
      have := alAt_of (hsub j _ h2).2
      rw [noAl_spec hna] at this
      cases this
    · cases h1
      cases hk
  have get : ∀ {r : Nat} {row : Row} {u : Value}, rowAt H r = some row → (ρ ++ [v])[r]? = some u → ρ[r]? = some u := by
    intro r row u h1 h2
    rw [List.getElem?_append_left (by rw [hH.len]; exact rowAt_lt h1)] at h2
    exact h2
  have getl : ∀ {r : Nat} {row : Row} {u : Value}, llAt H r = some row → (ρ ++ [v])[r]? = some u → ρ[r]? = some u := by
    intro r row u h1 h2
    rw [List.getElem?_append_left (by rw [hH.len]; exact llAt_lt h1)] at h2
    exact h2
  have lastv : ∀ {u : Value}, (ρ ++ [v])[H2.length]? = some u → u = v := by
    intro u h
    rw [← hl] at h
    simp at h
    exact h.symm
  have left : ∀ {q g : Nat}, ¬ Rem q → OB I ρ H q g → w'.heap[g]? = w.heap[g]? := fun hq hg => hheap _ (hg.lt hH hI).1 fun q' hq' hg' => hq (by rw [hg.uniq hH hI hg']; exact hq')
  have sep : ∀ {q g : Nat}, ¬ Rem q → OB I ρ H q g → ¬ (I0 g ∨ v.ownBlock = some g) := by
    intro q g hq hg h
    rcases (hnew g h).2.2 with h1 | ⟨q', h1, h2⟩
    · have := (hg.lt hH hI).1
      omega
    · exact hq (by rw [hg.uniq hH hI h2]; exact h1)
  refine ⟨by simp [hl], fun r row h => ?_, fun r r' row row' u u' g hne h1 h2 h3 h4 h5 => ?_, fun r g => (r = H2.length ∧ I0 g) ∨ (r ≠ H2.length ∧ I r g), fun r row z' h1 h2 => ?_⟩
  · obtain ⟨hr, h1⟩ := rold h
    obtain ⟨u, a1, a2⟩ := hH.row r row h1
    exact ⟨u, getElem?_push_old a1, a2.keep fun g hg => left hr (.inl ⟨row, u, h1, a1, hg⟩)⟩
  · exact hH.apart r r' row row' u u' g hne (rold h1).2 (rold h2).2 (get (rold h1).2 h3) (get (rold h2).2 h4) h5
  · rcases llAt_push h1 with a | ⟨rfl, a, _⟩
    · obtain ⟨hq, a'⟩ := lold a
      have hr : r ≠ H2.length := Nat.ne_of_lt (llAt_lt a)
      obtain ⟨u, us', b1, b2, b3, bd, ba, b4, b5⟩ := hI r row z' a' h2
      have hob : ∀ g, (I r g ∨ u.ownBlock = some g) → OB I ρ H r g := fun g hg => .inr ⟨row, u, a', b1, hg⟩
      have hkp : ∀ g, (I r g ∨ u.ownBlock = some g) → w'.heap[g]? = w.heap[g]? := fun g hg => left hq (hob g hg)
      refine ⟨u, us', getElem?_push_old b1, ownsRow_keep (fun g hg => hkp g (.inr hg)) b2, b3.mono fun xs y hy => (hy.keep fun g hg => hkp g (.inl hg)).mono fun g hg => .inr ⟨hr, hg⟩, bd, fun j i hj => absurd hj (hnal j _), ?_, ?_⟩
      · rintro g hg (⟨e1, _⟩ | ⟨_, h⟩)
        · exact hr e1
        · exact b4 g hg h
      · intro g hg
        have hg' : I r g ∨ u.ownBlock = some g := by
          rcases hg with (⟨e1, _⟩ | ⟨_, h⟩) | h
          · exact absurd e1 hr
          · exact .inl h
          · exact .inr h
        obtain ⟨c1, c2, c3, c4⟩ := b5 g hg'
        refine ⟨by omega, c2, fun r' row' v' d1 d2 => c3 r' row' v' (rold d1).2 (get (rold d1).2 d2), fun r' row' v' d0 d1 d2 => ?_⟩
        rcases llAt_push d1 with d | ⟨rfl, _, _⟩
        · obtain ⟨dq, d'⟩ := lold d
          obtain ⟨e1, e2⟩ := c4 r' row' v' d0 d' (getl d' d2)
          refine ⟨?_, e2⟩
          rintro (⟨e3, _⟩ | ⟨_, h⟩)
          · exact absurd e3 (Nat.ne_of_lt (llAt_lt d))
          · exact e1 h
        · have := lastv d2
          subst this
          have hs := sep hq (hob g hg')
          refine ⟨?_, fun h => hs (.inr h)⟩
          rintro (⟨_, h⟩ | ⟨h, _⟩)
          · exact hs (.inl h)
          · exact h rfl
    · cases a
      have : z' = z := by rw [hz] at h2; cases h2; rfl
      subst this
      refine ⟨v, us, by rw [← hl]; simp, hown, hin.mono fun xs y hy => hy.mono fun g hg => .inl ⟨rfl, hg⟩, hdi, fun j i hj => absurd hj (hnal j _), ?_, ?_⟩
      · rintro g hg (⟨_, h⟩ | ⟨h, _⟩)
        · exact hd g hg h
        · exact h rfl
      · intro g hg
        have hg' : I0 g ∨ v.ownBlock = some g := by
          rcases hg with (⟨_, h⟩ | ⟨h, _⟩) | h
          · exact .inl h
          · exact absurd rfl h
          · exact .inr h
        obtain ⟨c1, c2, _⟩ := hnew g hg'
        refine ⟨c1, c2, fun r' row' v' d1 d2 h => ?_, fun r' row' v' d0 d1 d2 => ?_⟩
        · exact sep (rold d1).1 (.inl ⟨row', v', (rold d1).2, get (rold d1).2 d2, h⟩) hg'
        · rcases llAt_push d1 with d | ⟨e3, _, _⟩
          · obtain ⟨dq, d'⟩ := lold d
            refine ⟨?_, fun h => sep dq (.inr ⟨row', v', d', getl d' d2, .inr h⟩) hg'⟩
            rintro (⟨e4, _⟩ | ⟨_, h⟩)
            · exact d0 e4
            · exact sep dq (.inr ⟨row', v', d', getl d' d2, .inl h⟩) hg'
          · exact absurd e3 d0
theorem TOK.ek2 (hT : TOK P T) {t : Nat} {k : K} (h : T.ek t = some k) : (k.is2 || k.isAl) = false := by
  obtain ⟨i, z, d, _, _, _, hz, _⟩ := hT.ek t k h
  cases k <;> first | rfl | exact hz.elim
theorem does_fresh {o : Oper} {s : St} {e : Nat} {vec : Vec} (hk : (vec.k.is2 || vec.k.isAl) = false)
    (h : ∀ (a : Act) (w : World) (Pr : Nat → Prop) (ρ cargs : List Value), (∀ k, Pr k → k < w.heap.size) → HR w Pr ρ s.H → Opd Pr w ρ cargs s a o.op →
      ∃ (X : Sem Value) (cells : Array Value), execOp a.eval o = (do pure (.value (← X))) ∧ X.run P w = .ok (.slice (some ⟨w.heap.size, 0, none⟩) vec.xs.length vec.xs.length) (w.alloc (.cells cells e)) ∧ AllR SCR vec.cells cells.toList ∧ vec.xs.length ≤ maxLen) :
    Does P o s (.fv (.own s.H.length)) (s.H ++ [some ⟨e, vec⟩]) := by
  intro a w Pr ρ cargs hp hH ho
  obtain ⟨X, cells, h1, h2, h3, h4⟩ := h a w Pr ρ cargs hp hH ho
  refine yields_value h1 h2 ⟨ρ ++ [_], old_push _, ?_, hH.push (heap_old w _) (RowR.fresh hp h3 h4) hk ?_, keep_alloc hp _⟩
  · show (ρ ++ [_])[s.H.length]? = some _
    rw [← hH.len]; simp
  · intro g hg
    simp only [Value.ownBlock, Option.some.injEq] at hg
    omega
theorem maxLen_one : 1 ≤ maxLen := by unfold maxLen; omega
theorem does_box {o : Oper} {s : St} {e : Nat} {kd : K} {x : kd.ty} (hk : (kd.is2 || kd.isAl) = false)
    (h : ∀ (a : Act) (w : World) (Pr : Nat → Prop) (ρ cargs : List Value), (∀ k, Pr k → k < w.heap.size) → HR w Pr ρ s.H → Opd Pr w ρ cargs s a o.op →
      ∃ (X : Sem Value) (cells : Array Value), execOp a.eval o = (do pure (.value (← X))) ∧ X.run P w = .ok (.pointer (some ⟨w.heap.size, 0, none⟩)) (w.alloc (.cells cells e)) ∧ AllR SCR (kd.f x).cells cells.toList) :
    Does P o s (.fv (.pt ⟨.r s.H.length, kd.sz, 0, 0⟩)) (s.H ++ [some ⟨e, ⟨kd, [x]⟩⟩]) := by
  intro a w Pr ρ cargs hp hH ho
  obtain ⟨X, cells, h1, h2, h3⟩ := h a w Pr ρ cargs hp hH ho
  have hc : AllR SCR (Vec.cells ⟨kd, [x]⟩) cells.toList := by
    unfold Vec.cells
    simpa using h3
  refine yields_value h1 h2 ⟨ρ ++ [_], old_push _, ?_, hH.push (heap_old w _) (RowR.fresh (vec := ⟨kd, [x]⟩) hp hc maxLen_one) hk ?_, keep_alloc hp _⟩
  · simp only [AVR, FVR, PtR]
    exact ⟨_, w.heap.size, by rw [← hH.len]; simp; rfl, rfl, by simp⟩
  · intro g hg
    simp only [Value.ownBlock, Option.some.injEq] at hg
    omega
theorem madeCells_rep {k : K} {z : Value} (hz : ElR (k.f k.z) z) (n : Nat) : AllR SCR (Vec.cells ⟨k, List.replicate n k.z⟩) ((Array.range (n * k.sz)).map (z.cells[· % z.cells.size]!)).toList := by
  obtain ⟨zs, h1, h2⟩ := ElR.cells hz
  have hl : zs.length = k.sz := by rw [← h2.length, K.len_f]
  have hsz : z.cells.size = k.sz := by rw [h1]; simpa using hl
  refine AllR.of_get (by simp [Vec.len_cells]) fun i c u hc hu => ?_
  have hlt : i < n * k.sz := by
    rcases Nat.lt_or_ge i (n * k.sz) with h' | h'
    · exact h'
    · rw [List.getElem?_eq_none (by simp [Vec.len_cells]; exact h')] at hc; cases hc
  have hmod : i % k.sz < k.sz := Nat.mod_lt _ k.sz_pos
  have hdm : (i / k.sz) * k.sz + i % k.sz = i := by rw [Nat.mul_comm]; exact Nat.div_add_mod i k.sz
  have hq : i / k.sz < n := (Nat.div_lt_iff_lt_mul k.sz_pos).2 hlt
  have h3 := Vec.get_cells ⟨k, List.replicate n k.z⟩ (i / k.sz) (i % k.sz) k.z (by simp [hq]) hmod
  dsimp only at h3
  rw [hdm, hc] at h3
  obtain ⟨u', hu', hr⟩ := h2.get (i % k.sz) c h3.symm
  have e : u = u' := by
    simp only [Array.toList_map, List.getElem?_map, Array.toList_range, List.getElem?_range hlt, Option.map_some, Option.some.injEq] at hu
    rw [← hu, hsz, h1]
    have : i % k.sz < zs.length := by omega
    simp only [List.getElem?_eq_getElem this, Option.some.injEq] at hu'
    simp [this, hu']
  rw [e]
  exact hr
theorem build0_run (hT : TOK P T) {w : World} {t e e2 : Nat} (hsl : T.sl t = some e) (hsl2 : T.sl e = some e2) :
    (Instr.buildSlice t 0 #[]).run P w = .ok (.slice (some ⟨w.heap.size, 0, none⟩) 0 0) (w.alloc (.cells #[] e)) := by
  obtain ⟨i, hi, hsz, hz, _⟩ := hT.s1 e e2 hsl2
  have hr0 : ∀ f : Nat → Value, (Array.range 0).map f = #[] := fun f => by rw [Array.range_zero']; simp
  simp [Instr.buildSlice, run_underlying (hT.sl t e hsl), sizeOf, typeInfo, hi, hsz, newRow, hr0, Instr.fill]
theorem build1_run (hT : TOK P T) {w : World} {t e e2 : Nat} (hsl : T.sl t = some e) (hsl2 : T.sl e = some e2) (u : Value) (ou : u.cells = #[u]) :
    (Instr.buildSlice t 1 #[(0, u)]).run P w = .ok (.slice (some ⟨w.heap.size, 0, none⟩) 1 1) (w.alloc (.cells #[u] e)) := by
  obtain ⟨i, hi, hsz, hz, _⟩ := hT.s1 e e2 hsl2
  have hf1 : Instr.fill (fun i => some (i, 1)) ((Array.range 1).map ((Value.slice none 0 0).cells[· % (Value.slice none 0 0).cells.size]!)) [(0, u)] = some #[u] := by
    have h0 : ∀ z : Array Value, z.size = 1 → Instr.fill (fun i => some (i, 1)) z [(0, u)] = some #[u] := by
      intro z hz
      obtain ⟨l⟩ := z
      match l, hz with
      | [z0], _ => simp [Instr.fill, ou]
    exact h0 _ (by simp)
  simp [Instr.buildSlice, run_underlying (hT.sl t e hsl), sizeOf, typeInfo, zeroValue, hi, hz, hsz, newRow, hf1]
theorem row_one {w : World} {Pr : Nat → Prop} {v : Value} {e : Nat} {vec : Vec} (h : RowR w Pr v e vec) : v.oneCell' = true ∧ v.cells = #[v] := by
  obtain ⟨vs, hown, _⟩ := h
  rcases hown.2 with ⟨h1, _⟩ | ⟨g', cap, cur, h1, _⟩ <;> rw [h1] <;> exact ⟨rfl, rfl⟩
theorem does_buildLL (hT : TOK P T) {o : Oper} {s : St} {k : AV → Hp → R} {out : Out} {t n e : Nat} {parts : Array (Nat × Operand)} {ps : List (Nat × FV)} (hop : o.op = .buildSlice t n parts) (he : T.sl t = some e) (hps : evParts s parts.toList = some ps)
    (h : buildLLK T s.H e n ps (fun v H => k (.fv v) H) = some out) : ∃ av H', k av H' = some out ∧ Does P o s av H' := by
  unfold buildLLK at h
  split at h
  · cases h
  rename_i e2 he2
  split at h
  · cases h
  rename_i kd hkd
  split at h
  · split at h
    · rename_i vec hvec
      refine ⟨_, _, h, ?_⟩
      intro a w Pr ρ cargs hp hH ho
      have hpa : parts = #[] := by
        cases hpl : parts.toList with
        | nil => exact Array.toList_eq_nil_iff.1 hpl
        | cons x xs =>
          rw [hpl] at hps
          unfold evParts at hps
          split at hps <;> cases hps
      have hpm : parts.map (fun p => (p.1, a.eval p.2)) = #[] := by rw [hpa]; simp
      refine yields_value (x := Instr.buildSlice t 0 (parts.map fun p => (p.1, a.eval p.2))) (by rw [exec_eq hop]; rfl) (by rw [hpm]; exact build0_run hT he he2) ⟨ρ ++ [_], old_push _, ?_, hH.push2 (v := .slice (some ⟨w.heap.size, 0, none⟩) 0 0) (I0 := fun _ => False) (us := []) hp (heap_old w _) (of2_two hvec) ?_ trivial (fun q q' y y' g _ h => by simp at h) (fun _ _ h => h) ?_, keep_alloc hp _⟩
      · show (ρ ++ [_])[s.H.length]? = some _
        rw [← hH.len]; simp
      · exact ⟨by simp, .inr ⟨w.heap.size, 0, #[], rfl, Nat.zero_le _, heap_alloc_new w _, Nat.le_refl _, by unfold maxLen; omega, by simp, by simp⟩⟩
      · intro g hg
        rcases hg with hg | hg
        · exact hg.elim
        · simp only [Value.ownBlock, Option.some.injEq] at hg
          subst hg
          exact ⟨Nat.le_refl _, (Array.getElem?_eq_some_iff.1 (heap_alloc_new w _)).1⟩
    · cases h
  · rename_i r
    split at h
    · rename_i row hrow
      split at h
      · rename_i ys hys
        cases hna : noAl s.H with
        | false => rw [hna] at h; cases h
        | true =>
          rw [hna] at h
          simp only [cond_true] at h
          split at h
          · rename_i vec hvec
            refine ⟨_, _, h, ?_⟩
            intro a w Pr ρ cargs hp hH ho
            obtain ⟨x, hpl, hx⟩ : ∃ x, parts.toList = [(0, x)] ∧ evO s x = some (.own r) := by
              cases hpl : parts.toList with
              | nil => rw [hpl] at hps; cases hps
              | cons p ps' =>
                obtain ⟨j, x⟩ := p
                rw [hpl] at hps
                unfold evParts at hps
                split at hps
                · rename_i v vs hv hvs
                  simp only [Option.some.injEq, List.cons.injEq, Prod.mk.injEq] at hps
                  obtain ⟨⟨rfl, rfl⟩, rfl⟩ := hps
                  cases ps' with
                  | nil => exact ⟨_, rfl, hv⟩
                  | cons q qs =>
                    unfold evParts at hvs
                    split at hvs <;> cases hvs
                · cases hps
            have hpa : parts = #[(0, x)] := by rw [← Array.toArray_toList (xs := parts), hpl]
            have hu : ρ[r]? = some (a.eval x) := ho.fv x (by rw [hop]; simp only [Op.operands]; simp; exact ⟨0, by rw [hpa]; simp⟩) _ hx
            obtain ⟨u2, hu2, hr⟩ := hH.row r row hrow
            rw [hu] at hu2
            cases hu2
            have hone := row_one hr
            have hpm : parts.map (fun p => (p.1, a.eval p.2)) = #[(0, a.eval x)] := by rw [hpa]; simp
            have hv := cast_ok hys
            obtain ⟨I, hI⟩ := hH.ll
            have hold := heap_old w (.cells #[a.eval x] e)
            have hown : (w.alloc (.cells #[a.eval x] e)).ownsRow 0 e 1 (.slice (some ⟨w.heap.size, 0, none⟩) 1 1) 1 [a.eval x] :=
              ⟨by simp, .inr ⟨w.heap.size, 1, #[a.eval x], rfl, Nat.zero_le _, heap_alloc_new w _, Nat.le_refl _, by unfold maxLen; omega, by simp, by simp⟩⟩
            have hin : InnR (w.alloc (.cells #[a.eval x] e)) (fun g => (a.eval x).ownBlock = some g) kd ys (a.eval x) := by
              obtain ⟨vs, h1, h2, _⟩ := hr.keep (w' := w.alloc (.cells #[a.eval x] e)) fun g hg => hold g (hr.lt hg)
              rw [hv] at h1 h2
              exact ⟨row.e, vs, h1, h2, fun g hg => hg⟩
            have hlt : w.heap.size < (w.alloc (.cells #[a.eval x] e)).heap.size := (Array.getElem?_eq_some_iff.1 (heap_alloc_new w _)).1
            refine yields_value (x := Instr.buildSlice t 1 (parts.map fun p => (p.1, a.eval p.2))) (by rw [exec_eq hop]; rfl) (by rw [hpm]; exact build1_run hT he he2 _ hone.2) ⟨ρ ++ [_], old_push _, ?_, hH.consume hI (fun q => q = r) (List.length_set ..) (fun q y hq => ?_) hna (fun g hg _ => hold g hg) (Nat.le_of_lt hlt) (of2_two hvec) (us := [a.eval x]) (I0 := fun g => (a.eval x).ownBlock = some g) hown ⟨hin, trivial⟩ ?_ ?_ ?_, keep_alloc hp _⟩
            · show (ρ ++ [_])[s.H.length]? = some _
              rw [← hH.len]; simp
            · rcases at_set hq with ⟨h1, h2⟩ | ⟨_, h2⟩
              · exact ⟨fun e => h1 e.symm, h2⟩
              · cases h2
            · intro q q' y y' g hne h1 h2
              have e1 := (List.getElem?_eq_some_iff.1 h1).1
              have e2 := (List.getElem?_eq_some_iff.1 h2).1
              simp at e1 e2
              omega
            · intro g hg hg'
              simp only [Value.ownBlock, Option.some.injEq] at hg
              have := hr.lt hg'
              omega
            · intro g hg
              rcases hg with hg | hg
              · obtain ⟨_, _, _, hnp⟩ := id hr
                exact ⟨Nat.lt_trans (hr.lt hg) hlt, hnp g hg, .inr ⟨r, rfl, .inl ⟨row, _, hrow, hu, hg⟩⟩⟩
              · simp only [Value.ownBlock, Option.some.injEq] at hg
                subst hg
                exact ⟨hlt, fun hpr => Nat.lt_irrefl _ (hp _ hpr), .inl (Nat.le_refl _)⟩
          · cases h
      · cases h
    · cases h
  · cases h
theorem does_buildSlice (hT : TOK P T) {o : Oper} {s : St} {k : AV → Hp → R} {out : Out} {t n : Nat} {parts : Array (Nat × Operand)} (hop : o.op = .buildSlice t n parts) (h : opK T false (.buildSlice t n parts) s k = some out) :
    ∃ av H', k av H' = some out ∧ Does P o s av H' := by
  unfold opK at h
  simp only [cond_false] at h
  split at h
  · rename_i e ps he hps
    split at h
    · rename_i kd hkd
      split at h
      · rename_i xs hxs
        cases hn : decide (n ≤ 65536) with
        | false => rw [hn] at h; cases h
        | true =>
          rw [hn] at h
          replace hn := of_decide_eq_true hn
          refine ⟨_, _, h, does_fresh (hT.ek2 hkd) ?_⟩
          intro a w Pr ρ cargs hp hH ho
          obtain ⟨i, z, d, hi, hsz, hz, hze, _⟩ := hT.ek e kd hkd
          have hparts := evParts_mem hps (Pr := Pr) (w := w) (ρ := ρ) (cargs := cargs) (a := a) fun p hpm v hv => ho.fv p.2 (by rw [hop]; simp only [Op.operands]; simp; exact ⟨p.1, by simpa using hpm⟩) v hv
          obtain ⟨us', hf1, hf2, hf3⟩ := fillVec_ok ps _ _ ((Array.range (n * kd.sz)).map (z.cells[· % z.cells.size]!)) xs hxs hparts (madeCells_rep hze n)
          have hlen : xs.length = n := by rw [hf3]; simp
          refine ⟨Instr.buildSlice t n (parts.map fun p => (p.1, a.eval p.2)), us', by rw [exec_eq hop]; rfl, ?_, hf2, by dsimp only; rw [hlen]; unfold maxLen; omega⟩
          have hsmall : ¬ 2 ^ 24 < n * kd.sz := by
            have := kd.sz_le
            have h2 : n * kd.sz ≤ 65536 * 4 := Nat.mul_le_mul hn this
            omega
          dsimp only
          rw [hlen]
          by_cases h0 : n * kd.sz = 0
          · have hr0 : ∀ f : Nat → Value, (Array.range 0).map f = #[] := fun f => by rw [Array.range_zero']; simp
            rw [h0, hr0] at hf1
            simp [Instr.buildSlice, run_underlying (hT.sl t e he), sizeOf, typeInfo, hi, hsz, h0, newRow, hr0, hf1]
          · simp [Instr.buildSlice, run_underlying (hT.sl t e he), sizeOf, typeInfo, zeroValue, hi, hz, hsz, h0, hsmall, newRow, hf1]
      · cases h
    · exact does_buildLL hT hop he hps h
  · cases h
theorem does_makeSlice (hT : TOK P T) {o : Oper} {s : St} {k : AV → Hp → R} {out : Out} {t : Nat} {l c : Operand} (hop : o.op = .makeSlice t l c) (h : opK T false (.makeSlice t l c) s k = some out) :
    ∃ av H', k av H' = some out ∧ Does P o s av H' := by
  unfold opK at h
  simp only [cond_false] at h
  split at h
  · rename_i e q1 n q2 m he hl hc
    split at h
    · rename_i kd hkd
      cases hn : decide (0 ≤ n ∧ n = m ∧ n ≤ 1099511627776) with
      | false => rw [hn] at h; cases h
      | true =>
        rw [hn] at h
        obtain ⟨h0, rfl, hle⟩ := of_decide_eq_true hn
        refine ⟨_, _, h, does_fresh (hT.ek2 hkd) ?_⟩
        intro a w Pr ρ cargs hp hH ho
        obtain ⟨i, z, d, hi, hsz, hz, hze, hby, _⟩ := hT.ek e kd hkd
        have h1 : a.eval l = .int q1 n := ho.fv l (by rw [hop]; simp [Op.operands]) _ hl
        have h2 : a.eval c = .int q2 n := ho.fv c (by rw [hop]; simp [Op.operands]) _ hc
        refine ⟨Instr.makeSlice t (a.eval l) (a.eval c), (Array.range (n.toNat * kd.sz)).map (z.cells[· % z.cells.size]!), by rw [exec_eq hop]; rfl, ?_, madeCells_rep hze n.toNat, by simp; unfold maxLen; omega⟩
        have hb : (i.bytes : Int) * n ≤ 281474976710656 := by
          have h3 : (i.bytes : Int) * n ≤ 64 * n := Int.mul_le_mul_of_nonneg_right (by omega) h0
          omega
        have hr := run_make (P := P) w t e i z (hT.sl t e he) hi hz q1 q2 n n h0 (Int.le_refl _) hb (by omega)
        rw [h1, h2, hr]
        simp [madeCells, hsz]
    · split at h
      · rename_i e2 he2
        split at h
        · rename_i kd hkd
          split at h
          · rename_i vec hvec
            cases hn : decide (0 ≤ n ∧ n = m ∧ n ≤ 1099511627776) with
            | false => rw [hn] at h; cases h
            | true =>
              rw [hn] at h
              obtain ⟨h0, rfl, hle⟩ := of_decide_eq_true hn
              refine ⟨_, _, h, ?_⟩
              intro a w Pr ρ cargs hp hH ho
              obtain ⟨i, hi, hsz, hz, hby⟩ := hT.s1 e e2 he2
              have h1 : a.eval l = .int q1 n := ho.fv l (by rw [hop]; simp [Op.operands]) _ hl
              have h2 : a.eval c = .int q2 n := ho.fv c (by rw [hop]; simp [Op.operands]) _ hc
              have hb : (i.bytes : Int) * n ≤ 281474976710656 := by
                have h3 : (i.bytes : Int) * n ≤ 64 * n := Int.mul_le_mul_of_nonneg_right (by omega) h0
                omega
              have hr := run_make (P := P) w t e i (.slice none 0 0) (hT.sl t e he) hi hz q1 q2 n n h0 (Int.le_refl _) hb (by omega)
              have hcells : (madeCells (Value.slice none 0 0).cells (n.toNat * i.size)).toList = List.replicate n.toNat (.slice none 0 0) := by
                rw [hsz, Nat.mul_one]
                apply List.ext_getElem?
                intro j
                unfold madeCells
                simp only [Array.toList_map, Array.toList_range, List.getElem?_map, List.getElem?_replicate]
                by_cases hj : j < n.toNat
                · rw [List.getElem?_range hj, if_pos hj]
                  simp [Value.cells, Nat.mod_one]
                · rw [if_neg hj, List.getElem?_eq_none (by simpa using hj)]
                  rfl
              have hlen : (madeCells (Value.slice none 0 0).cells (n.toNat * i.size)).size = n.toNat := by rw [size_madeCells, hsz, Nat.mul_one]
              refine yields_value (x := Instr.makeSlice t (a.eval l) (a.eval c)) (by rw [exec_eq hop]; rfl) (by rw [h1, h2]; exact hr) ⟨ρ ++ [.slice (some ⟨w.heap.size, 0, none⟩) n.toNat n.toNat], old_push _, ?_, hH.push2 (v := .slice (some ⟨w.heap.size, 0, none⟩) n.toNat n.toNat) (I0 := fun _ => False) (us := List.replicate n.toNat (.slice none 0 0)) hp (heap_old w _) (of2_two hvec) ?_ ?_ (fun q q' y y' g _ h _ hg => by rw [List.getElem?_replicate] at h; split at h <;> cases h; cases hg) (fun _ _ h => h) ?_, keep_alloc hp _⟩
              · show (ρ ++ [_])[s.H.length]? = some _
                rw [← hH.len]; simp
              · refine ⟨by simp, .inr ⟨w.heap.size, n.toNat, _, by simp, Nat.zero_le _, heap_alloc_new w _, by simp, by simp; unfold maxLen; omega, by rw [hlen]; simp, ?_⟩⟩
                rw [hcells]
                simp
              · exact AllR.replicate ⟨0, [], ⟨by simp, .inl ⟨rfl, rfl⟩⟩, trivial, fun g hg => by cases hg⟩ _
              · intro g hg
                rcases hg with hg | hg
                · exact hg.elim
                · simp only [Value.ownBlock, Option.some.injEq] at hg
                  subst hg
                  exact ⟨Nat.le_refl _, (Array.getElem?_eq_some_iff.1 (heap_alloc_new w _)).1⟩
          · cases h
        · cases h
      · cases h
  · cases h
theorem does_alloc (hT : TOK P T) {o : Oper} {s : St} {k : AV → Hp → R} {out : Out} {t : Nat} (hop : o.op = .alloc t) (h : opK T false (.alloc t) s k = some out) :
    ∃ av H', k av H' = some out ∧ Does P o s av H' := by
  unfold opK at h
  simp only [cond_false] at h
  split at h
  · rename_i kd hkd
    refine ⟨_, _, h, does_box (hT.ek2 hkd) ?_⟩
    intro a w Pr ρ cargs hp hH ho
    obtain ⟨i, z, d, hi, hsz, hz, hze, hby, _⟩ := hT.ek t kd hkd
    obtain ⟨zs, h1, h2⟩ := ElR.cells hze
    refine ⟨Instr.alloc t true (.tuple #[]), z.cells, by rw [exec_eq hop]; rfl, ?_, by rw [h1]; exact h2⟩
    simp [Instr.alloc, zeroValue, typeInfo, hi, hz, newVar, newRow]
  · cases h
theorem does_boxed {o : Oper} {s : St} {k : AV → Hp → R} {out : Out} {t : Nat} {x : Operand} (hop : o.op = .box t x) (h : opK T false (.box t x) s k = some out) :
    ∃ av H', k av H' = some out ∧ Does P o s av H' := by
  unfold opK at h
  simp only [cond_false] at h
  split at h
  · rename_i kd e hkd he
    split at h
    · rename_i y hy
      refine ⟨_, _, h, does_box (g_is2 hy) ?_⟩
      intro a w Pr ρ cargs hp hH ho
      have hx : ElR e (a.eval x) := ho.fv x (by rw [hop]; simp [Op.operands]) _ he
      rw [← K.g_f hy] at hx
      obtain ⟨zs, h1, h2⟩ := ElR.cells hx
      refine ⟨Instr.box t (a.eval x), (a.eval x).cells, by rw [exec_eq hop]; rfl, ?_, by rw [h1]; exact h2⟩
      simp [Instr.box, newVar, newRow]
    · cases h
  · cases h
theorem flat_set1 {α β : Type} (f : α → List β) (n : Nat) (hf : ∀ a, (f a).length = n) : ∀ (xs : List α) (i j : Nat) (a b : α) (s : β), xs[i]? = some a → f b = (f a).set j s → j < n →
    (xs.set i b).flatMap f = (xs.flatMap f).set (i * n + j) s
  | [], i, j, a, b, s, h, _, _ => by simp at h
  | x :: xs, 0, j, a, b, s, h, hb, hj => by
    simp at h
    subst h
    simp only [List.set_cons_zero, List.flatMap_cons, Nat.zero_mul, Nat.zero_add, hb]
    rw [List.set_append_left _ _ (by rw [hf]; exact hj)]
  | x :: xs, i + 1, j, a, b, s, h, hb, hj => by
    have ih := flat_set1 f n hf xs i j a b s (by simpa using h) hb hj
    have e : (i + 1) * n + j = n + (i * n + j) := by rw [Nat.add_mul]; omega
    simp only [List.set_cons_succ, List.flatMap_cons, ih, e]
    rw [List.set_append_right _ _ (by rw [hf]; omega), hf, Nat.add_sub_cancel_left]
theorem take_mid {α : Type} (L vs : List α) (off N : Nat) (h1 : off + vs.length ≤ N) (h2 : N ≤ L.length) :
    (L.take off ++ vs ++ L.drop (off + vs.length)).take N = (L.take N).take off ++ vs ++ (L.take N).drop (off + vs.length) := by
  have hl : (L.take off ++ vs).length = off + vs.length := by simp; omega
  rw [List.take_append, List.take_of_length_le (by rw [hl]; exact h1), hl, List.take_take, Nat.min_eq_left (by omega), List.drop_take]
theorem write_row {w : World} {b e size n : Nat} {v : Value} {xs : List Value} {g : Nat} (h : w.ownsRow b e size v n xs) (hg : v.ownBlock = some g) (off : Nat) (vs : List Value) (hl : off + vs.length ≤ xs.length) (h1 : ∀ u ∈ vs, u.oneCell' = true) :
    ∃ w', (storeCells ⟨g, off, none⟩ vs).run P w = .ok () w' ∧ w'.ownsRow b e size v n (xs.take off ++ vs ++ xs.drop (off + vs.length)) ∧ (∀ k, k ≠ g → w'.heap[k]? = w.heap[k]?) ∧
      w'.os = w.os ∧ w'.tape = w.tape ∧ w'.output = w.output ∧ w'.heap.size = w.heap.size := by
  obtain ⟨hx, h2⟩ := h
  rcases h2 with ⟨rfl, _⟩ | ⟨g', cap, cur, rfl, hb, hgg, hnc, hcm, hcs, htake⟩
  · simp [Value.ownBlock] at hg
  · simp only [Value.ownBlock, Option.some.injEq] at hg
    subst hg
    have hxl : xs.length ≤ cur.size := by rw [← htake]; simp; omega
    have hst := run_storeCells_at P g' off e vs 0 cur w hgg (by omega) h1
    simp only [Nat.add_zero] at hst
    refine ⟨_, hst, ⟨?_, .inr ⟨g', cap, _, rfl, hb, setRow_heap w g' cur _ e _ hgg, hnc, hcm, ?_, ?_⟩⟩, fun k hk => setRow_other w g' k _ hk, rfl, rfl, rfl, by simp⟩
    · simp only [List.length_append, List.length_take, List.length_drop]
      omega
    · simp only [List.size_toArray, List.length_append, List.length_take, List.length_drop, Array.length_toList]
      omega
    · have hns : n * size ≤ cur.size := by rw [hcs]; exact Nat.mul_le_mul_right _ hnc
      rw [hx] at hl
      rw [← htake]
      exact take_mid cur.toList vs off (n * size) hl (by simpa using hns)
theorem LLR.set {w w' : World} {Pr : Nat → Prop} {ρ : List Value} {H : Hp} {r : Nat} {x : Option Row} (h : LLR w Pr ρ H) (hsz : w.heap.size ≤ w'.heap.size) (hx : ∀ row, x = some row → (row.v.k.is2 || row.v.k.isAl) = false) (hold : ∀ row, x = some row → ∃ row0, rowAt H r = some row0)
    (hheap : ∀ g, g < w.heap.size → (∀ (r : Nat) (row : Row) (v : Value), rowAt H r = some row → ρ[r]? = some v → v.ownBlock ≠ some g) → w'.heap[g]? = w.heap[g]?) : LLR w' Pr ρ (H.set r x) := by
  refine h.step hsz hheap (fun r' row hr => ?_) (fun r' p hr => ?_) fun r' row u g h1 h2 h3 => ?_
  · rcases llAt_set hr with ⟨_, h1⟩ | ⟨_, h1⟩
    · exact ⟨h1, rfl⟩
    · have := hx row h1
      rw [(llAt_is2 hr).1] at this
      cases this
  · rcases alAt_set hr with ⟨_, h1⟩ | ⟨_, e, h1⟩
    · exact ⟨h1, rfl⟩
    · have := hx _ h1
      cases this
  · rcases rowAt_set h1 with ⟨_, h4⟩ | ⟨rfl, h4⟩
    · exact .inr ⟨r', row, u, h4, h2, h3⟩
    · obtain ⟨row0, h5⟩ := hold row h4
      exact .inr ⟨r, row0, u, h5, h2, h3⟩
theorem setElt_ok {k : K} {a b : k.ty} {whole : Bool} {j : Nat} {x : Elt} (h : setElt k a whole j x = some b) :
    (whole = true ∧ k.f b = x) ∨ (whole = false ∧ ∃ c, x = .sc c ∧ (k.f b).cells = (k.f a).cells.set j c) := by
  unfold setElt at h
  cases whole with
  | true => exact .inl ⟨rfl, K.g_f h⟩
  | false =>
    simp only [cond_false] at h
    split at h
    · rename_i c
      exact .inr ⟨rfl, c, rfl, by rw [K.g_f h]; rfl⟩
    · cases h
theorem HR.put {w w' : World} {Pr : Nat → Prop} {ρ : List Value} {H : Hp} {r r2 i : Nat} {row row2 : Row} {z : (k : K) × List (List k.ty)} {ys : List z.1.ty} {vec : Vec} {vr u2 : Value} {g : Nat} {us : List Value} {I : Nat → Nat → Prop}
    (hH : HR w Pr ρ H) (hI : LLI I w Pr ρ H) (hr : llAt H r = some row) (hr2 : rowAt H r2 = some row2) (hc : row2.v = ⟨z.1, ys⟩) (hv : Vec.of2 z.1 (z.2.set i ys) = some vec) (hvr : ρ[r]? = some vr) (hu2 : ρ[r2]? = some u2)
    (hg : vr.ownBlock = some g) (hna : noAl H = true) (a3 : AllR (fun xs u => InnR w (I r) z.1 xs u) z.2 us) (ad : DistR us) (a4 : ∀ g, vr.ownBlock = some g → ¬ I r g)
    (a5 : ∀ g, (I r g ∨ vr.ownBlock = some g) → g < w.heap.size ∧ ¬ Pr g ∧ (∀ (r' : Nat) (row' : Row) (v' : Value), rowAt H r' = some row' → ρ[r']? = some v' → v'.ownBlock ≠ some g) ∧
      (∀ (r' : Nat) (row' : Row) (v' : Value), r' ≠ r → llAt H r' = some row' → ρ[r']? = some v' → ¬ I r' g ∧ v'.ownBlock ≠ some g))
    (hown : w'.ownsRow 0 row.e 1 vr z.2.length (us.set i u2)) (hoth : ∀ k, k ≠ g → w'.heap[k]? = w.heap[k]?) (hsz : w'.heap.size = w.heap.size) : HR w' Pr ρ ((H.set r2 none).set r (some ⟨row.e, vec⟩)) := by
  have hv2 := of2_two hv
  have hvk := two_is2 hv2
  have rold : ∀ {q : Nat} {row' : Row}, rowAt ((H.set r2 none).set r (some ⟨row.e, vec⟩)) q = some row' → r2 ≠ q ∧ r ≠ q ∧ rowAt H q = some row' := by
    intro q row' h
    rcases rowAt_set h with ⟨n1, h1⟩ | ⟨rfl, h1⟩
    · rcases rowAt_set h1 with ⟨n2, h2⟩ | ⟨_, h2⟩
      · exact ⟨n2, n1, h2⟩
      · cases h2
    · cases h1
      have := (rowAt_is2 h).1
      rw [hvk] at this
      cases this
  have lold : ∀ {q : Nat} {row' : Row}, llAt ((H.set r2 none).set r (some ⟨row.e, vec⟩)) q = some row' → (r ≠ q ∧ llAt H q = some row') ∨ (r = q ∧ row' = ⟨row.e, vec⟩) := by
    intro q row' h
    rcases llAt_set h with ⟨n1, h1⟩ | ⟨e, h1⟩
    · rcases llAt_set h1 with ⟨n2, h2⟩ | ⟨_, h2⟩
      · exact .inl ⟨n1, h2⟩
      · cases h2
    · cases h1
      exact .inr ⟨e, rfl⟩
  obtain ⟨u2', b0, b2⟩ := hH.row r2 row2 hr2
  rw [hu2] at b0
  cases b0
  have hb2 : ∀ k, u2.ownBlock = some k → k < w.heap.size ∧ k ≠ g := fun k hk => ⟨b2.lt hk, fun e => (a5 g (.inr hg)).2.2.1 r2 row2 u2 hr2 hu2 (e ▸ hk)⟩
  have hnew : InnR w' (fun k => u2.ownBlock = some k) z.1 ys u2 := by
    obtain ⟨vs2, h1, h2, _⟩ := b2.keep (w' := w') fun k hk => hoth k (hb2 k hk).2
    rw [hc] at h1 h2
    exact ⟨row2.e, vs2, h1, h2, fun k hk => hk⟩
  have hnal : ∀ (j : Nat) (p : Nat × Nat), alAt ((H.set r2 none).set r (some ⟨row.e, vec⟩)) j ≠ some p := by
    intro j p h
    rcases alAt_set h with ⟨_, h1⟩ | ⟨_, e, h1⟩
    · rcases alAt_set h1 with ⟨_, h2⟩ | ⟨_, e, h2⟩
      · rw [noAl_spec hna] at h2; cases h2
      · cases h2
    · cases h1
      cases hvk
  have hnp : ∀ k, u2.ownBlock = some k → ¬ Pr k := by
    obtain ⟨_, _, _, h⟩ := b2
    exact h
  refine ⟨by rw [List.length_set, List.length_set]; exact hH.len, fun q row' h => ?_, fun q q' row' row'' v v' k hne h1 h2 h3 h4 h5 => hH.apart q q' row' row'' v v' k hne (rold h1).2.2 (rold h2).2.2 h3 h4 h5, fun q k => I q k ∨ (q = r ∧ u2.ownBlock = some k), fun q row' z' h1 h2 => ?_⟩
  · obtain ⟨v, hv', hrr⟩ := hH.row q row' (rold h).2.2
    exact ⟨v, hv', hrr.keep fun k hk => hoth k fun e => (a5 g (.inr hg)).2.2.1 q row' v (rold h).2.2 hv' (e ▸ hk)⟩
  · rcases lold h1 with ⟨n, h⟩ | ⟨rfl, rfl⟩
    · obtain ⟨v, us', c1, c2, c3, cd, _, c4, c5⟩ := hI q row' z' h h2
      have hkp : ∀ k, (I q k ∨ v.ownBlock = some k) → w'.heap[k]? = w.heap[k]? := fun k hk => hoth k fun e => ((c5 k hk).2.2.2 r row vr n hr hvr).2 (e ▸ hg)
      refine ⟨v, us', c1, ownsRow_keep (fun k hk => hkp k (.inr hk)) c2, c3.mono fun xs y hy => (hy.keep fun k hk => hkp k (.inl hk)).mono fun k hk => .inl hk, cd, fun j i' hj => absurd hj (hnal j _), ?_, ?_⟩
      · rintro k hk (h | ⟨e, _⟩)
        · exact c4 k hk h
        · exact n e.symm
      · intro k hk
        have hk' : I q k ∨ v.ownBlock = some k := by
          rcases hk with (h | ⟨e, _⟩) | h
          · exact .inl h
          · exact absurd e.symm n
          · exact .inr h
        obtain ⟨d1, d2, d3, d4⟩ := c5 k hk'
        refine ⟨by omega, d2, fun r' row'' v' e1 e2 => d3 r' row'' v' (rold e1).2.2 e2, fun r' row'' v' e0 e1 e2 => ?_⟩
        rcases lold e1 with ⟨n', e1'⟩ | ⟨rfl, rfl⟩
        · obtain ⟨f1, f2⟩ := d4 r' row'' v' e0 e1' e2
          refine ⟨?_, f2⟩
          rintro (h | ⟨e, _⟩)
          · exact f1 h
          · exact n' e.symm
        · obtain ⟨f1, f2⟩ := d4 r row vr e0 hr hvr
          rw [hvr] at e2
          cases e2
          refine ⟨?_, f2⟩
          rintro (h | ⟨_, h⟩)
          · exact f1 h
          · exact d3 r2 row2 u2 hr2 hu2 h
    · rw [hv2] at h2
      cases h2
      refine ⟨vr, us.set i u2, hvr, by rw [List.length_set]; exact hown, ?_, ?_, fun j i' hj => absurd hj (hnal j _), ?_, ?_⟩
      · exact (a3.mono fun xs y hy => (InnR.keep (fun k hk => hoth k fun e => a4 g hg (e ▸ hk)) hy).mono fun k hk => .inl hk).set i (hnew.mono fun k hk => .inr ⟨rfl, hk⟩)
      · have hin : ∀ (q : Nat) (y : Value) (k : Nat), us[q]? = some y → y.ownBlock = some k → u2.ownBlock ≠ some k := by
          intro q y k hq hk h
          obtain ⟨xs, _, _, _, _, _, h3⟩ := a3.getR q y hq
          exact (a5 k (.inl (h3 k hk))).2.2.1 r2 row2 u2 hr2 hu2 h
        intro q q' y y' k hne hq hq' hk hk'
        rw [List.getElem?_set] at hq hq'
        by_cases e1 : i = q
        · rw [if_pos e1] at hq
          have e2 : ¬ i = q' := fun e2 => hne (e1.symm.trans e2)
          rw [if_neg e2] at hq'
          split at hq
          · simp only [Option.some.injEq] at hq
            subst hq
            exact hin q' y' k hq' hk' hk
          · cases hq
        · rw [if_neg e1] at hq
          by_cases e2 : i = q'
          · rw [if_pos e2] at hq'
            split at hq'
            · simp only [Option.some.injEq] at hq'
              subst hq'
              exact hin q y k hq hk hk'
            · cases hq'
          · rw [if_neg e2] at hq'
            exact ad q q' y y' k hne hq hq' hk hk'
      · rintro k hk (h | ⟨_, h⟩)
        · exact a4 k hk h
        · exact (a5 k (.inr hk)).2.2.1 r2 row2 u2 hr2 hu2 h
      · have tr : ∀ k, (I r k ∨ vr.ownBlock = some k) → k < w'.heap.size ∧ ¬ Pr k ∧ (∀ (r' : Nat) (row' : Row) (v' : Value), rowAt ((H.set r2 none).set r (some ⟨row.e, vec⟩)) r' = some row' → ρ[r']? = some v' → v'.ownBlock ≠ some k) ∧
            (∀ (r' : Nat) (row' : Row) (v' : Value), r' ≠ r → llAt ((H.set r2 none).set r (some ⟨row.e, vec⟩)) r' = some row' → ρ[r']? = some v' → ¬ (I r' k ∨ (r' = r ∧ u2.ownBlock = some k)) ∧ v'.ownBlock ≠ some k) := by
          intro k hk
          obtain ⟨d1, d2, d3, d4⟩ := a5 k hk
          refine ⟨by omega, d2, fun r' row'' v' e1 e2 => d3 r' row'' v' (rold e1).2.2 e2, fun r' row'' v' e0 e1 e2 => ?_⟩
          rcases lold e1 with ⟨n', e1'⟩ | ⟨e3, _⟩
          · obtain ⟨f1, f2⟩ := d4 r' row'' v' e0 e1' e2
            refine ⟨?_, f2⟩
            rintro (h | ⟨e, _⟩)
            · exact f1 h
            · exact e0 e
          · exact absurd e3.symm e0
        intro k hk
        rcases hk with (h | ⟨_, h⟩) | h
        · exact tr k (.inl h)
        · refine ⟨by have := (hb2 k h).1; omega, hnp k h, fun r' row'' v' e1 e2 => hH.apart r2 r' row2 row'' u2 v' k (rold e1).1 hr2 (rold e1).2.2 hu2 e2 h, fun r' row'' v' e0 e1 e2 => ?_⟩
          rcases lold e1 with ⟨n', e1'⟩ | ⟨e3, _⟩
          · obtain ⟨z3, hz3⟩ := two_some (llAt_is2 e1').1
            obtain ⟨v3, _, g1, _, _, _, _, _, g5⟩ := hI r' row'' z3 e1' hz3
            rw [e2] at g1
            cases g1
            refine ⟨?_, fun h' => (g5 k (.inr h')).2.2.1 r2 row2 u2 hr2 hu2 h⟩
            rintro (h' | ⟨e, _⟩)
            · exact (g5 k (.inl h')).2.2.1 r2 row2 u2 hr2 hu2 h
            · exact e0 e
          · exact absurd e3.symm e0
        · exact tr k (.inr h)
theorem does_put (hT : TOK P T) {o : Oper} {s : St} {k : Hp → R} {out : Out} {t r i r2 : Nat} {x y : Operand} (hop : o.op = .store t x y) (hx : evO s x = some (.pl r i)) (hy : evO s y = some (.own r2)) (h : putK T s.H t r i r2 k = some out) :
    ∃ H', k H' = some out ∧ Does P o s .un H' := by
  unfold putK at h
  split at h
  · rename_i e row row2 he hrow hrow2
    split at h
    · rename_i z hz
      split at h
      · rename_i ys hys
        cases hi : (noAl s.H && decide (i < z.2.length)) with
        | false => rw [hi] at h; cases h
        | true =>
          rw [hi] at h
          obtain ⟨hna, hi⟩ := Bool.and_eq_true_iff.1 hi
          replace hi := of_decide_eq_true hi
          simp only [cond_true] at h
          split at h
          · rename_i vec hvec
            refine ⟨_, h, ?_⟩
            intro act w Pr ρ cargs hp hH ho
            obtain ⟨ti, hti, htsz, _⟩ := hT.s1 t e he
            obtain ⟨vr, g, hr1, hr2, hr3⟩ := ho.fv x (by rw [hop]; simp [Op.operands]) _ hx
            have hu2 : ρ[r2]? = some (act.eval y) := ho.fv y (by rw [hop]; simp [Op.operands]) _ hy
            obtain ⟨I, hI⟩ := hH.ll
            obtain ⟨vr', us, a1, a2, a3, ad, _, a4, a5⟩ := hI r row z hrow hz
            rw [hr1] at a1
            cases a1
            have hul : us.length = z.2.length := by rw [a2.1, Nat.mul_one]
            obtain ⟨u2, b1, b2⟩ := hH.row r2 row2 hrow2
            rw [hu2] at b1
            cases b1
            have hone : (act.eval y).oneCell' = true ∧ (act.eval y).cells = #[act.eval y] := by
              obtain ⟨vs, hown, _⟩ := b2
              rcases hown.2 with ⟨h1, _⟩ | ⟨g', cap, cur, h1, _⟩ <;> rw [h1] <;> exact ⟨rfl, rfl⟩
            obtain ⟨w', hst, hown', hoth, hos, htape, hout, hsize⟩ := write_row (P := P) a2 hr2 i [act.eval y] (by simp; omega) (fun u hu => by simp at hu; subst hu; exact hone.1)
            have hset : us.take i ++ [act.eval y] ++ us.drop (i + [act.eval y].length) = us.set i (act.eval y) := by
              rw [List.set_eq_take_append_cons_drop, if_pos (by omega)]
              simp
            rw [hset] at hown'
            unfold Yields
            rw [exec_eq hop]
            have hrun : (Instr.storeAt t (act.eval x) (act.eval y)).run P w = .ok () w' := by
              rw [hr3]
              simp [Instr.storeAt, Instr.sureAddr, storeVar, hone.2, sizeOf, typeInfo, hti, htsz, hst]
            simp only [execOp, Sem.run_bind, hrun, Result.andThen_ok, Sem.run_pure]
            exact ⟨ρ, fun _ _ h => h, rfl, hH.put hI hrow hrow2 (cast_ok hys) hvec hr1 hu2 hr2 hna a3 ad a4 a5 hown' hoth hsize, ⟨hos, htape, hout, by omega, fun j hj => hoth j fun e => (a5 g (.inr hr2)).2.1 (e ▸ hj)⟩⟩
          · cases h
      · cases h
    · cases h
  · cases h
theorem HR.alias {w : World} {Pr : Nat → Prop} {ρ : List Value} {H : Hp} {r i g : Nat} {row : Row} {z : (k : K) × List (List k.ty)} {xs : List z.1.ty} {vr : Value} (hH : HR w Pr ρ H) (hr : llAt H r = some row) (hz : row.v.two = some z) (hi : z.2[i]? = some xs)
    (hvr : ρ[r]? = some vr) (hg : vr.ownBlock = some g) : ∃ u, w.cell? ⟨g, i, none⟩ = some u ∧ HR w Pr (ρ ++ [u]) (H ++ [some ⟨0, ⟨.al, [(r, i)]⟩⟩]) := by
  obtain ⟨I, hI⟩ := hH.ll
  obtain ⟨v, us, a1, a2, a3, ad, aa, a4, a5⟩ := hI r row z hr hz
  rw [hvr] at a1
  cases a1
  obtain ⟨u, hu, _⟩ := a3.get i xs hi
  have hcell : w.cell? ⟨g, i, none⟩ = some u := by
    have := a2.cells hg i u hu
    first
      | exact this
      | (unfold Addr.add at this; split at this <;> simp_all)
  have old : ∀ {q : Nat} {row' : Row}, rowAt (H ++ [some ⟨0, ⟨.al, [(r, i)]⟩⟩]) q = some row' → rowAt H q = some row' := by
    intro q row' h
    rcases rowAt_push h with h1 | ⟨_, h2⟩
    · exact h1
    · cases h2
      have := (rowAt_no h).1
      cases this
  have lold : ∀ {q : Nat} {row' : Row}, llAt (H ++ [some ⟨0, ⟨.al, [(r, i)]⟩⟩]) q = some row' → llAt H q = some row' := by
    intro q row' h
    rcases llAt_push h with h1 | ⟨_, h2, h3⟩
    · exact h1
    · cases h2
      cases h3
  have get : ∀ {q : Nat} {y : Value}, q < H.length → (ρ ++ [u])[q]? = some y → ρ[q]? = some y := by
    intro q y h1 h2
    rw [List.getElem?_append_left (by rw [hH.len]; exact h1)] at h2
    exact h2
  refine ⟨u, hcell, by simp [hH.len], fun q row' h => ?_, fun q q' row' row'' y y' k hne h1 h2 h3 h4 h5 => hH.apart q q' row' row'' y y' k hne (old h1) (old h2) (get (rowAt_lt (old h1)) h3) (get (rowAt_lt (old h2)) h4) h5, I, fun q row' z' h1 h2 => ?_⟩
  · obtain ⟨y, b1, b2⟩ := hH.row q row' (old h)
    exact ⟨y, getElem?_push_old b1, b2⟩
  · obtain ⟨v', us', c1, c2, c3, cd, ca, c4, c5⟩ := hI q row' z' (lold h1) h2
    refine ⟨v', us', getElem?_push_old c1, c2, c3, cd, fun j i' hj hlt => ?_, c4, fun k hk => ?_⟩
    · rcases alAt_push hj with h | ⟨rfl, e, h⟩
      · obtain ⟨y, y1, y2⟩ := ca j i' h hlt
        exact ⟨y, getElem?_push_old y1, y2⟩
      · have hp : (r, i) = (q, i') := by cases h; rfl
        cases hp
        rw [hvr] at c1
        cases c1
        have : row' = row := by have := lold h1; rw [hr] at this; cases this; rfl
        subst this
        rw [hz] at h2
        cases h2
        have hlen : us = us' := by
          refine List.ext_getElem? fun q => ?_
          cases h1 : us[q]? with
          | none =>
            have h2 : us'.length ≤ q := by
              have := List.getElem?_eq_none_iff.1 h1
              rw [← c3.length, a3.length]
              exact this
            rw [List.getElem?_eq_none h2]
          | some y =>
            obtain ⟨xs', d1, _⟩ := a3.getR q y h1
            obtain ⟨y', d2, _⟩ := c3.get q xs' d1
            have e1 := a2.cells hg q y h1
            have e2 := c2.cells hg q y' d2
            rw [e1] at e2
            cases e2
            exact d2.symm
        subst hlen
        exact ⟨u, by rw [← hH.len]; simp, hu⟩
    · obtain ⟨d1, d2, d3, d4⟩ := c5 k hk
      exact ⟨d1, d2, fun r' row'' y e1 e2 => d3 r' row'' y (old e1) (get (rowAt_lt (old e1)) e2), fun r' row'' y e0 e1 e2 => d4 r' row'' y e0 (lold e1) (get (llAt_lt (lold e1)) e2)⟩
theorem does_loadPl (hT : TOK P T) {o : Oper} {s : St} {k : AV → Hp → R} {out : Out} {t r i : Nat} {x : Operand} (hop : o.op = .load t x) (hx : evO s x = some (.pl r i)) (h : opK T false (.load t x) s k = some out) :
    ∃ av H', k av H' = some out ∧ Does P o s av H' := by
  unfold opK at h
  dsimp only at h
  rw [hx] at h
  simp only [cond_false] at h
  split at h
  · rename_i e row he hrow
    split at h
    · rename_i z hz
      split at h
      · rename_i xs hi
        refine ⟨_, _, h, ?_⟩
        intro act w Pr ρ cargs hp hH ho
        obtain ⟨vr, g, hr1, hr2, hr3⟩ := ho.fv x (by rw [hop]; simp [Op.operands]) _ hx
        obtain ⟨u, hu, hH'⟩ := hH.alias hrow hz hi hr1 hr2
        have hagg : aggD (.slice e) = false := rfl
        have hrun : (Instr.loadAt t (act.eval x)).run P w = .ok u w := by
          rw [hr3]
          simp [Instr.loadAt, Instr.sureAddr, loadVar, isAgg_run (hT.sl t e he) hagg, hu]
        refine yields_value (x := Instr.loadAt t (act.eval x)) (by rw [exec_eq hop]; rfl) hrun ⟨ρ ++ [u], old_push _, ?_, hH', Keep.refl _ _⟩
        show (ρ ++ [u])[s.H.length]? = some u
        rw [← hH.len]; simp
      · cases h
    · cases h
  · cases h
theorem does_store (hT : TOK P T) {o : Oper} {s : St} {k : AV → Hp → R} {out : Out} {t : Nat} {x y : Operand} (hop : o.op = .store t x y) (h : opK T false (.store t x y) s k = some out) :
    ∃ av H', k av H' = some out ∧ Does P o s av H' := by
  unfold opK at h
  simp only [cond_false] at h
  split at h
  · rename_i p v hp hv
    unfold storeK at h
    split at h
    · rename_i q r e hq hb
      split at h
      · rename_i row hrow
        split at h
        · rename_i a ha
          split at h
          · rename_i b hset
            cases hc : (Nat.beq e.cells.length q.sz && Nat.beq p.sz row.v.k.sz && decide (p.j < row.v.k.sz)) with
            | false => rw [hc] at h; cases h
            | true =>
              rw [hc] at h
              simp only [Bool.and_eq_true, decide_eq_true_eq] at hc
              have hc1 : e.cells.length = q.sz := Nat.eq_of_beq_eq_true hc.1.1
              have hc2 : p.sz = row.v.k.sz := Nat.eq_of_beq_eq_true hc.1.2
              have hc3 : p.j < row.v.k.sz := hc.2
              refine ⟨_, _, h, ?_⟩
              intro act w Pr ρ cargs hpr hH ho
              obtain ⟨i, z, d, hi, hsz, hz, hze, hby, _⟩ := hT.ek t q hq
              have hx := ho.fv x (by rw [hop]; simp [Op.operands]) _ hp
              have hy : ElR e (act.eval y) := ho.fv y (by rw [hop]; simp [Op.operands]) _ hv
              obtain ⟨us, hu1, hu2⟩ := ElR.cells hy
              have hul : us.length = q.sz := by rw [← hu2.length]; exact hc1
              have hx2 : PtR w Pr ρ p (act.eval x) := hx
              unfold PtR at hx2
              rw [hb] at hx2
              dsimp only at hx2
              obtain ⟨vr, g, hr1, hr2, hr3⟩ := hx2
              obtain ⟨vr', hr1', vs, hown, hvs, hnp⟩ := hH.row r row hrow
              rw [hr1] at hr1'
              cases hr1'
              have hlen : vs.length = row.v.xs.length * row.v.k.sz := hown.1
              have hilt : p.i < row.v.xs.length := by
                rcases Nat.lt_or_ge p.i row.v.xs.length with h' | h'
                · exact h'
                · rw [List.getElem?_eq_none h'] at ha; cases ha
              have hle : p.i * row.v.k.sz + row.v.k.sz ≤ vs.length := by
                rw [hlen]
                calc p.i * row.v.k.sz + row.v.k.sz = (p.i + 1) * row.v.k.sz := by rw [Nat.add_mul]; omega
                  _ ≤ row.v.xs.length * row.v.k.sz := Nat.mul_le_mul_right _ hilt
              have hnew : p.i * p.sz + p.j + us.length ≤ vs.length ∧ AllR SCR (Vec.cells ⟨row.v.k, row.v.xs.set p.i b⟩) (vs.take (p.i * p.sz + p.j) ++ us ++ vs.drop (p.i * p.sz + p.j + us.length)) := by
                rw [hc2]
                rcases setElt_ok hset with ⟨hw, hfb⟩ | ⟨hw, c, rfl, hfb⟩
                · rw [Bool.and_eq_true] at hw
                  have hqk : q = row.v.k := of_decide_eq_true hw.1
                  have hj : p.j = 0 := Nat.eq_of_beq_eq_true hw.2
                  have hus : us.length = row.v.k.sz := by rw [hul, hqk]
                  rw [hj, Nat.add_zero, hus]
                  refine ⟨hle, ?_⟩
                  unfold Vec.cells
                  rw [flat_set _ _ row.v.k.len_f row.v.xs p.i b hilt]
                  have : AllR SCR (row.v.k.f b).cells us := by rw [hfb]; exact hu2
                  exact ((hvs.take _).append this).append (hvs.drop _)
                · obtain ⟨u, rfl, hcu⟩ := AllR.one (show AllR SCR [c] us from hu2)
                  refine ⟨by simp; omega, ?_⟩
                  unfold Vec.cells
                  rw [flat_set1 _ _ row.v.k.len_f row.v.xs p.i p.j a b c ha hfb hc3]
                  have hset2 : vs.take (p.i * row.v.k.sz + p.j) ++ [u] ++ vs.drop (p.i * row.v.k.sz + p.j + [u].length) = vs.set (p.i * row.v.k.sz + p.j) u := by
                    rw [List.set_eq_take_append_cons_drop, if_pos (by omega)]
                    simp
                  rw [hset2]
                  exact hvs.set _ hcu
              obtain ⟨w', hst, hown', hoth, hos, htape, hout, hsize⟩ := write_row (P := P) hown hr2 (p.i * p.sz + p.j) us hnew.1 (fun u hu => by
                obtain ⟨j, hj⟩ := List.getElem?_of_mem hu
                obtain ⟨c, _, hcu⟩ := hu2.getR j u hj
                exact hcu.one)
              unfold Yields
              rw [exec_eq hop]
              have hrun : (Instr.storeAt t (act.eval x) (act.eval y)).run P w = .ok () w' := by
                rw [hr3]
                simp [Instr.storeAt, Instr.sureAddr, storeVar, hu1, sizeOf, typeInfo, hi, hsz, hul, hst]
              simp only [execOp, Sem.run_bind, hrun, Result.andThen_ok, Sem.run_pure]
              refine ⟨ρ, fun _ _ h => h, rfl, ?_, ⟨hos, htape, hout, by omega, fun j hj => hoth j (fun e => hnp g hr2 (e ▸ hj))⟩⟩
              refine ⟨by rw [List.length_set]; exact hH.len, fun r' row' hrow' => ?_, fun r1 r2 row1 row2 v1 v2 g' hne h1 h2 h3 h4 h5 => ?_, hH.ll.set (by omega) (fun row' e => by cases e; exact (rowAt_no hrow).1) (fun _ _ => ⟨row, hrow⟩) fun g' _ hg' => hoth g' fun e => hg' r row vr hrow hr1 (by rw [e]; exact hr2)⟩
              · rcases rowAt_set hrow' with ⟨hne, hold⟩ | ⟨rfl, hnew'⟩
                · obtain ⟨v', hv', hrr⟩ := hH.row r' row' hold
                  refine ⟨v', hv', hrr.keep fun g' hg' => hoth g' ?_⟩
                  intro e
                  subst e
                  exact hH.apart r r' row row' vr v' _ hne hrow hold hr1 hv' hr2 hg'
                · cases hnew'
                  refine ⟨vr, hr1, _, ?_, hnew.2, hnp⟩
                  have : (row.v.xs.set p.i b).length = row.v.xs.length := by simp
                  dsimp only
                  rw [this]
                  exact hown'
              · have key : ∀ {r' : Nat} {row' : Row}, rowAt (List.set s.H r (some ⟨row.e, ⟨row.v.k, row.v.xs.set p.i b⟩⟩)) r' = some row' → ∃ row'', rowAt s.H r' = some row'' := by
                  intro r' row' h
                  rcases rowAt_set h with ⟨_, h⟩ | ⟨rfl, _⟩
                  · exact ⟨_, h⟩
                  · exact ⟨_, hrow⟩
                obtain ⟨row1', h1'⟩ := key h1
                obtain ⟨row2', h2'⟩ := key h2
                exact hH.apart r1 r2 row1' row2' v1 v2 g' hne h1' h2' h3 h4 h5
          · cases h
        · cases h
      · cases h
    · cases h
  · rename_i r i r2 hx hy
    obtain ⟨H', h1, h2⟩ := does_put hT hop hx hy h
    exact ⟨_, H', h1, h2⟩
  · cases h
end
end Go.Sm
namespace Go.Sm
open Go Go.RowKit
section
variable {P : Program} {T : TT}
theorem HR.push' {w : World} {Pr : Nat → Prop} {ρ : List Value} {H : Hp} {v : Value} {e : Nat} {vec : Vec} (hH : HR w Pr ρ H)
    (hr : RowR w Pr v e vec) (hl : LLR w Pr (ρ ++ [v]) (H ++ [some ⟨e, vec⟩])) (hn : ∀ g, v.ownBlock = some g → ∀ (r : Nat) (row : Row) (u : Value), rowAt H r = some row → ρ[r]? = some u → u.ownBlock ≠ some g) : HR w Pr (ρ ++ [v]) (H ++ [some ⟨e, vec⟩]) := by
  refine ⟨by simp [hH.len], fun r row hrow => ?_, fun r r' row row' u u' g hne h1 h2 h3 h4 h5 h6 => ?_, hl⟩
  · rcases rowAt_push hrow with h | ⟨rfl, h⟩
    · obtain ⟨u, h1, h2⟩ := hH.row r row h
      exact ⟨u, getElem?_push_old h1, h2⟩
    · cases h
      exact ⟨v, by rw [← hH.len]; simp, hr⟩
  · rcases rowAt_push h1 with a | ⟨ra, a⟩ <;> rcases rowAt_push h2 with b | ⟨rb, b⟩
    · obtain ⟨x, hx, _⟩ := hH.row r row a
      obtain ⟨y, hy, _⟩ := hH.row r' row' b
      have hx' := getElem?_push_old (v := v) hx
      have hy' := getElem?_push_old (v := v) hy
      rw [h3] at hx'
      rw [h4] at hy'
      cases hx'
      cases hy'
      exact hH.apart r r' row row' _ _ g hne a b hx hy h5 h6
    · obtain ⟨x, hx, hxr⟩ := hH.row r row a
      have hx' := getElem?_push_old (v := v) hx
      rw [h3] at hx'
      cases hx'
      subst rb
      rw [← hH.len] at h4
      simp at h4
      subst h4
      exact hn g h6 r row _ a hx h5
    · obtain ⟨y, hy, hyr⟩ := hH.row r' row' b
      have hy' := getElem?_push_old (v := v) hy
      rw [h4] at hy'
      cases hy'
      subst ra
      rw [← hH.len] at h3
      simp at h3
      subst h3
      exact hn g h5 r' row' _ b hy h6
    · omega
theorem HR.drop {w : World} {Pr : Nat → Prop} {ρ : List Value} {H : Hp} (hH : HR w Pr ρ H) (r : Nat) : HR w Pr ρ (H.set r none) := by
  have key : ∀ {r' : Nat} {row' : Row}, rowAt (H.set r none) r' = some row' → r ≠ r' ∧ rowAt H r' = some row' := by
    intro r' row' h
    rcases rowAt_set h with h | ⟨_, h⟩
    · exact h
    · cases h
  refine ⟨by rw [List.length_set]; exact hH.len, fun r' row' h => hH.row r' row' (key h).2, fun r1 r2 row1 row2 v1 v2 g hne h1 h2 h3 h4 h5 => ?_, hH.ll.set (Nat.le_refl _) (fun _ e => by cases e) (fun _ e => by cases e) fun _ _ _ => rfl⟩
  exact hH.apart r1 r2 row1 row2 v1 v2 g hne (key h1).2 (key h2).2 h3 h4 h5
theorem append_own (w : World) (t ty e : Nat) (i : TypeInfo) (z : Value) (size : Nat) (ht : P.underlying t = some (.slice e)) (hi : P.info? e = some i) (hz : i.zero = some z)
    (hsize : i.size = size) (hzs : z.cells.size = size) (hsz : 0 < size) (v : Value) (n : Nat) (xs : List Value) (hown : w.ownsRow 0 e size v n xs)
    (a : Addr) (m c : Nat) (news : List Value) (hl : news.length = m * size) (hnews : ∀ (j : Nat) (u : Value), news[j]? = some u → w.cell? (a.add j) = some u) (h1 : ∀ u ∈ news, u.oneCell' = true)
    (h63 : n + m ≤ maxLen) (hbytes : (n + m) * i.bytes ≤ 140737488355328) :
    ∃ v' w', (Builtin.append_ #[t, t] ty #[v, .slice (some a) m c]).run P w = .ok v' w' ∧ w'.ownsRow 0 e size v' (n + m) (xs ++ news) ∧ w.grownBy w' v.ownBlock ∧
      ∀ g, v'.ownBlock = some g → v.ownBlock = some g ∨ w.heap.size ≤ g := by
  obtain ⟨v', w', h2, h3, h4, h5⟩ := run_append_own (P := P) w 0 t ty e i z size i.bytes ht hi hz hsize rfl hzs hsz v n xs hown a m c news hl hnews h1 h63 hbytes (Nat.zero_le _)
  refine ⟨v', w', h2, h3, h4, ?_⟩
  intro g hg
  have hml : n + m ≤ 9223372036854775807 := by unfold maxLen at h63; omega
  rcases hown.2 with ⟨rfl, rfl⟩ | ⟨g', cap, cur, rfl, hb, hgg, hnc, hcm, hcs, htake⟩
  · by_cases hm : m = 0
    · rw [h5.2 ⟨rfl, hm⟩] at hg
      simp [Value.ownBlock] at hg
    · have hb : m * i.bytes ≤ 281474976710656 := by simp only [Nat.zero_add] at hbytes; omega
      have hr := run_append_nil (P := P) w t ty e i z ht hi hz a m c news (by rw [hsize]; exact hl) hnews (by omega) (by omega) hb
      rw [h2] at hr
      cases hr
      simp only [Value.ownBlock, Option.some.injEq] at hg
      exact .inr (by omega)
  · by_cases hroom : n + m ≤ cap
    · have hfit : n * i.size + news.length ≤ cur.size := by rw [hl, hcs, hsize, ← Nat.add_mul]; exact Nat.mul_le_mul_right _ hroom
      have hr := run_append_room (P := P) w t ty e i ht hi g' n cap cur hgg a m c news (by rw [hsize]; exact hl) hnews h1 hroom hfit
      rw [h2] at hr
      cases hr
      exact .inl hg
    · have holds : ∀ (j : Nat) (u : Value), xs[j]? = some u → w.cell? ((⟨g', 0, none⟩ : Addr).add j) = some u := hown.cells (g := g') rfl
      have hr := run_append_grow (P := P) w t ty e i z ht hi hz ⟨g', 0, none⟩ n cap xs (by rw [hsize]; exact hown.1) holds a m c news (by rw [hsize]; exact hl) hnews (by omega) (by omega) (growslice_fits (by omega) hbytes)
      rw [h2] at hr
      cases hr
      simp only [Value.ownBlock, Option.some.injEq] at hg
      exact .inr (by omega)
theorem slice_values {w : World} {a : Addr} {vec : Vec} (h : CellsR w a vec.cells) :
    ∃ news, news.length = vec.xs.length * vec.k.sz ∧ AllR SCR vec.cells news ∧ (∀ (j : Nat) (u : Value), news[j]? = some u → w.cell? (a.add j) = some u) ∧ ∀ u ∈ news, u.oneCell' = true := by
  obtain ⟨vs, h1, h2, h3⟩ := cells_list (n := 0) (m := vec.cells.length) h (by omega)
  simp only [List.drop_zero, List.take_length] at h2
  refine ⟨vs, by rw [h1, vec.len_cells], h2, ?_, ?_⟩
  · intro j u hu
    have := h3 j u hu
    rwa [show a.add 0 = a from by simp [Addr.add]] at this
  · intro u hu
    obtain ⟨j, hj⟩ := List.getElem?_of_mem hu
    obtain ⟨c, _, hcu⟩ := h2.getR j u hj
    exact hcu.one
theorem cells_append (q : K) (zs ys : List q.ty) : Vec.cells ⟨q, zs ++ ys⟩ = Vec.cells ⟨q, zs⟩ ++ Vec.cells ⟨q, ys⟩ := by simp [Vec.cells]
theorem cat2_two {v v2 vec : Vec} (h : v.cat2 v2 = some vec) : ∃ kd a b, v.two = some ⟨kd, a⟩ ∧ v2.two = some ⟨kd, b⟩ ∧ vec.two = some ⟨kd, a ++ b⟩ := by
  unfold Vec.cat2 at h
  split at h
  · cases h
    exact ⟨_, _, _, rfl, rfl, rfl⟩
  · cases h
    exact ⟨_, _, _, rfl, rfl, rfl⟩
  · cases h
theorem InnR.one {w : World} {I : Nat → Prop} {k : K} {xs : List k.ty} {u : Value} (h : InnR w I k xs u) : u.oneCell' = true := by
  obtain ⟨e, vs, hown, _⟩ := h
  rcases hown.2 with ⟨h1, _⟩ | ⟨g', cap, cur, h1, _⟩ <;> rw [h1] <;> rfl
theorem does_appendLL (hT : TOK P T) {o : Oper} {s : St} {k : AV → Hp → R} {out : Out} {args : Array Operand} {ts : Array Nat} {t e : Nat} {d x : FV}
    (hop : o.op = .call { callee := .builtin .append, args := args, argTypes := ts }) (htsA : ts = #[t, t]) (hargs : evAll s args.toList = some [d, x]) (he : T.sl t = some e)
    (h : appendLLK T s.H e d x (fun v H => k (.fv v) H) = some out) : ∃ av H', k av H' = some out ∧ Does P o s av H' := by
  unfold appendLLK at h
  split at h
  · rename_i e2 r r2 he2
    split at h
    · rename_i row row2 hrow hrow2
      cases hc : ((Nat.beq row.e e && Nat.beq row2.e e) && (noAl s.H && (!Nat.beq r r2 && decide (row.v.xs.length + row2.v.xs.length ≤ 1099511627776)))) with
      | false => rw [hc] at h; cases h
      | true =>
        rw [hc] at h
        simp only [Bool.and_eq_true, decide_eq_true_eq] at hc
        obtain ⟨⟨c1, c2⟩, hna, c3, hle⟩ := hc
        have hre := Nat.eq_of_beq_eq_true c1
        have hre2 := Nat.eq_of_beq_eq_true c2
        have hne : r ≠ r2 := fun e => by subst e; rw [Nat.beq_refl] at c3; cases c3
        simp only [cond_true] at h
        split at h
        · rename_i vec hvec
          refine ⟨_, _, h, ?_⟩
          intro a w Pr ρ cargs hp hH ho
          have hev := evAll_mem hargs (Pr := Pr) (w := w) (ρ := ρ) (cargs := cargs) (a := a) fun y hy v hv => ho.fv y (by rw [hop]; simpa [Op.operands, Call.operands] using hy) v hv
          obtain ⟨vd, u, hv, hd, hu⟩ := hev.two
          have hd' : ρ[r]? = some vd := hd
          have hu' : ρ[r2]? = some u := hu
          obtain ⟨kd, za, zb, z1, z2, z3⟩ := cat2_two hvec
          obtain ⟨I, hI⟩ := hH.ll
          obtain ⟨v1, us, a1, a2, a3, ad, _, a4, a5⟩ := hI r row _ hrow z1
          rw [hd'] at a1
          cases a1
          obtain ⟨v2, us2, b1, b2, b3, bd, _, b4, b5⟩ := hI r2 row2 _ hrow2 z2
          rw [hu'] at b1
          cases b1
          rw [hre] at a2
          rw [hre2] at b2
          have la := two_len z1
          have lb := two_len z2
          dsimp only at a2 a3 b2 b3 la lb
          obtain ⟨i, hi, hsz, hz, hby⟩ := hT.s1 e e2 he2
          have ob1 : ∀ g, (I r g ∨ vd.ownBlock = some g) → OB I ρ s.H r g := fun g hg => .inr ⟨row, vd, hrow, hd', hg⟩
          have ob2 : ∀ g, (I r2 g ∨ u.ownBlock = some g) → OB I ρ s.H r2 g := fun g hg => .inr ⟨row2, u, hrow2, hu', hg⟩
          have step : ∃ v' w', (Builtin.append_ #[t, t] o.type #[vd, u]).run P w = .ok v' w' ∧ w'.ownsRow 0 e 1 v' (za ++ zb).length (us ++ us2) ∧ w.grownBy w' vd.ownBlock ∧ (∀ g, v'.ownBlock = some g → g < w'.heap.size ∧ (vd.ownBlock = some g ∨ w.heap.size ≤ g)) := by
            rcases b2.2 with ⟨rfl, h0⟩ | ⟨g2, cap, cur, rfl, _, _, _, _, _, _⟩
            · have hb0 : zb = [] := List.eq_nil_of_length_eq_zero h0
              have hu0 : us2 = [] := List.eq_nil_of_length_eq_zero (by rw [b2.1, h0])
              subst hb0 hu0
              refine ⟨vd, w, run_append_owned_none (P := P) (w := w) 0 t o.type e i 1 (hT.sl t e he) hi vd za.length us a2, by simpa using a2, ⟨rfl, rfl, rfl, Nat.le_refl _, fun _ _ _ => rfl⟩, fun g hg => ⟨(ob1 g (.inr hg)).lt hH hI |>.1, .inl hg⟩⟩
            · have hb : (za.length + zb.length) * i.bytes ≤ 140737488355328 := by
                calc (za.length + zb.length) * i.bytes ≤ 1099511627776 * 64 := Nat.mul_le_mul (by omega) hby
                  _ ≤ 140737488355328 := by decide
              obtain ⟨v', w', h1, h2, h3, h4⟩ := append_own (P := P) w t o.type e i (.slice none 0 0) 1 (hT.sl t e he) hi hz hsz rfl (by omega) vd za.length us a2 ⟨g2, 0, none⟩ zb.length cap us2 b2.1 (fun j y hj => b2.cells (g := g2) rfl j y hj) (fun y hy => by
                obtain ⟨j, hj⟩ := List.getElem?_of_mem hy
                obtain ⟨xs, _, hx⟩ := b3.getR j y hj
                exact hx.one) (by unfold maxLen; omega) hb
              exact ⟨v', w', h1, by rw [List.length_append]; exact h2, h3, fun g hg => ⟨(h2.lt g hg).2, h4 g hg⟩⟩
          obtain ⟨v', w', h1, h2, h4, h5⟩ := step
          have nI : ∀ g, (I r g ∨ I r2 g) → vd.ownBlock ≠ some g := by
            rintro g (hg | hg) hg'
            · exact a4 g hg' hg
            · exact hne ((ob1 g (.inr hg')).uniq hH hI (ob2 g (.inl hg)))
          have kI : ∀ g, (I r g ∨ I r2 g) → w'.heap[g]? = w.heap[g]? := fun g hg => h4.block g (by
            rcases hg with hg | hg
            · exact ((ob1 g (.inl hg)).lt hH hI).1
            · exact ((ob2 g (.inl hg)).lt hH hI).1) fun e => nI g hg e.symm
          refine yields_builtin hop (v := v') (w' := w') (fun consts => ?_) ⟨ρ ++ [v'], old_push _, ?_, hH.consume hI (fun q => q = r ∨ q = r2) (by rw [List.length_set, List.length_set]) (fun q y hq => ?_) hna (fun g hg hq => h4.block g hg fun e => hq r (.inl rfl) (ob1 g (.inr e.symm))) h4.size z3 (us := us ++ us2) (I0 := fun g => I r g ∨ I r2 g) h2 ?_ ?_ ?_ ?_, ⟨h4.os, h4.tape, h4.output, h4.size, fun k hk => h4.block k (hp k hk) fun e => ((ob1 k (.inr e.symm)).lt hH hI).2 hk⟩⟩
          · rw [map_args hv, htsA]
            simp [builtin, h1]
          · show (ρ ++ [v'])[s.H.length]? = some v'
            rw [← hH.len]; simp
          · rcases at_set hq with ⟨n2, hq2⟩ | ⟨_, hq2⟩
            · rcases at_set hq2 with ⟨n1, hq1⟩ | ⟨_, hq1⟩
              · exact ⟨fun hh => hh.elim (fun e => n1 e.symm) (fun e => n2 e.symm), hq1⟩
              · cases hq1
            · cases hq2
          · exact (a3.mono fun xs y hy => (hy.keep fun g hg => kI g (.inl hg)).mono fun g hg => .inl hg).append (b3.mono fun xs y hy => (hy.keep fun g hg => kI g (.inr hg)).mono fun g hg => .inr hg)
          · have inI : ∀ (j : Nat) (y : Value) (g : Nat), us[j]? = some y → y.ownBlock = some g → I r g := fun j y g hj hg => by
              obtain ⟨xs, _, _, _, _, _, h3⟩ := a3.getR j y hj
              exact h3 g hg
            have inI2 : ∀ (j : Nat) (y : Value) (g : Nat), us2[j]? = some y → y.ownBlock = some g → I r2 g := fun j y g hj hg => by
              obtain ⟨xs, _, _, _, _, _, h3⟩ := b3.getR j y hj
              exact h3 g hg
            intro j j' y y' g hjj hy hy' hg hg'
            rw [List.getElem?_append] at hy hy'
            split at hy
            · split at hy'
              · exact ad j j' y y' g hjj hy hy' hg hg'
              · exact hne ((ob1 g (.inl (inI _ _ _ hy hg))).uniq hH hI (ob2 g (.inl (inI2 _ _ _ hy' hg'))))
            · split at hy'
              · exact hne ((ob1 g (.inl (inI _ _ _ hy' hg'))).uniq hH hI (ob2 g (.inl (inI2 _ _ _ hy hg))))
              · exact bd (j - us.length) (j' - us.length) y y' g (by omega) hy hy' hg hg'
          · intro g hg hI0
            rcases (h5 g hg).2 with h6 | h6
            · exact nI g hI0 h6
            · rcases hI0 with h7 | h7
              · have := ((ob1 g (.inl h7)).lt hH hI).1
                omega
              · have := ((ob2 g (.inl h7)).lt hH hI).1
                omega
          · intro g hg
            rcases hg with (hg | hg) | hg
            · have := (ob1 g (.inl hg)).lt hH hI
              exact ⟨Nat.lt_of_lt_of_le this.1 h4.size, this.2, .inr ⟨r, .inl rfl, ob1 g (.inl hg)⟩⟩
            · have := (ob2 g (.inl hg)).lt hH hI
              exact ⟨Nat.lt_of_lt_of_le this.1 h4.size, this.2, .inr ⟨r2, .inr rfl, ob2 g (.inl hg)⟩⟩
            · rcases (h5 g hg).2 with h6 | h6
              · exact ⟨(h5 g hg).1, ((ob1 g (.inr h6)).lt hH hI).2, .inr ⟨r, .inl rfl, ob1 g (.inr h6)⟩⟩
              · exact ⟨(h5 g hg).1, fun hpr => by have := hp g hpr; omega, .inl h6⟩
        · cases h
    · cases h
  · cases h
theorem does_append (hT : TOK P T) {o : Oper} {s : St} {k : AV → Hp → R} {out : Out} {args : Array Operand} {ts : Array Nat} {t : Nat} {d x : FV}
    (hop : o.op = .call { callee := .builtin .append, args := args, argTypes := ts }) (hts : ts.toList = [t, t]) (hargs : evAll s args.toList = some [d, x])
    (h : appendK T s.H t d x (fun v H => k (.fv v) H) = some out) : ∃ av H', k av H' = some out ∧ Does P o s av H' := by
  unfold appendK at h
  split at h
  · cases h
  rename_i e he
  split at h
  · exact does_appendLL hT hop (by rw [← Array.toArray_toList (xs := ts), hts]) hargs he h
  rename_i q hq
  split at h
  · cases h
  rename_i b vx hx
  split at h
  · cases h
  rename_i ys hys
  have hvx := cast_ok hys
  subst hvx
  have htsA : ts = #[t, t] := by rw [← Array.toArray_toList (xs := ts), hts]
  obtain ⟨i, z, dd, hi, hsz, hz, hze, hby, _⟩ := hT.ek e q hq
  obtain ⟨zv, hz1, hz2⟩ := ElR.cells hze
  have hzs : z.cells.size = q.sz := by rw [hz1, List.size_toArray, ← hz2.length, K.len_f]
  have step : ∀ (w : World) (v : Value) (u : Value) (zs : List q.ty) (xs : List Value), w.ownsRow 0 e q.sz v zs.length xs → AllR SCR (Vec.cells ⟨q, zs⟩) xs →
      ((u = .slice none 0 0 ∧ ys = []) ∨ ∃ a cap, u = .slice (some a) ys.length cap ∧ CellsR w a (Vec.cells ⟨q, ys⟩)) → zs.length + ys.length ≤ 1099511627776 →
      ∃ v' w', (Builtin.append_ #[t, t] o.type #[v, u]).run P w = .ok v' w' ∧ (∃ xs', w'.ownsRow 0 e q.sz v' (zs ++ ys).length xs' ∧ AllR SCR (Vec.cells ⟨q, zs ++ ys⟩) xs') ∧ w.grownBy w' v.ownBlock ∧
        ∀ g, v'.ownBlock = some g → v.ownBlock = some g ∨ w.heap.size ≤ g := by
    intro w v u zs xs hown hxs hu hle
    rcases hu with ⟨rfl, rfl⟩ | ⟨a, cap, rfl, hc⟩
    · refine ⟨v, w, run_append_owned_none (P := P) (w := w) 0 t o.type e i q.sz (hT.sl t e he) hi v zs.length xs hown, ⟨xs, by simpa using hown, by simpa using hxs⟩, ⟨rfl, rfl, rfl, Nat.le_refl _, fun _ _ _ => rfl⟩, fun g hg => .inl hg⟩
    · obtain ⟨news, hn1, hn2, hn3, hn4⟩ := slice_values hc
      have hb : (zs.length + ys.length) * i.bytes ≤ 140737488355328 := by
        calc (zs.length + ys.length) * i.bytes ≤ 1099511627776 * 64 := Nat.mul_le_mul hle hby
          _ ≤ 140737488355328 := by decide
      obtain ⟨v', w', h1, h2, h3, h4⟩ := append_own (P := P) w t o.type e i z q.sz (hT.sl t e he) hi hz hsz hzs q.sz_pos v zs.length xs hown a ys.length cap news hn1 hn3 hn4 (by unfold maxLen; omega) hb
      exact ⟨v', w', h1, ⟨xs ++ news, by rw [List.length_append]; exact h2, by rw [cells_append]; exact hxs.append hn2⟩, h3, h4⟩
  split at h
  · -- onto nothing
    cases hle : decide (ys.length ≤ 1099511627776) with
    | false => rw [hle] at h; cases h
    | true =>
      rw [hle] at h
      replace hle := of_decide_eq_true hle
      refine ⟨_, _, h, ?_⟩
      intro a w Pr ρ cargs hp hH ho
      have hev := evAll_mem hargs (Pr := Pr) (w := w) (ρ := ρ) (cargs := cargs) (a := a) fun y hy v hv => ho.fv y (by rw [hop]; simpa [Op.operands, Call.operands] using hy) v hv
      obtain ⟨vd, u, hv, hd, hu⟩ := hev.two
      have hd' : vd = .slice none 0 0 := hd
      subst hd'
      have hsl := (slice_ok hH hu hx).2
      obtain ⟨v', w', h1, ⟨xs', h2, h3⟩, h4, h5⟩ := step w (.slice none 0 0) u [] [] (World.ownsRow_nil w 0 e q.sz) (by simp [Vec.cells, AllR]) (by
        rcases hsl with h | ⟨a, cap, h1, _, h2, _⟩
        · exact .inl h
        · exact .inr ⟨a, cap, h1, h2⟩) (by simpa using hle)
      simp only [List.nil_append] at h2 h3
      have hnew : ∀ g, v'.ownBlock = some g → w.heap.size ≤ g := fun g hg => by
        rcases h5 g hg with h | h
        · simp [Value.ownBlock] at h
        · exact h
      have hold : ∀ k, k < w.heap.size → w'.heap[k]? = w.heap[k]? := fun k hk => h4.block k hk (by simp [Value.ownBlock])
      refine yields_builtin hop (v := v') (w' := w') (fun consts => ?_) ⟨ρ ++ [v'], old_push _, ?_, hH.push hold ⟨xs', h2, h3, fun g hg hpr => ?_⟩ (hT.ek2 hq) hnew, ⟨h4.os, h4.tape, h4.output, h4.size, fun k hk => hold k (hp k hk)⟩⟩
      · rw [map_args hv, htsA]
        simp [builtin, h1]
      · show (ρ ++ [v'])[s.H.length]? = some v'
        rw [← hH.len]; simp
      · have := hnew g hg
        have := hp g hpr
        omega
  · -- onto a row of the call's own
    rename_i r
    split at h
    · cases h
    rename_i row hrow
    split at h
    · cases h
    rename_i zs hzs'
    cases hle : (Nat.beq row.e e && decide (zs.length + ys.length ≤ 1099511627776)) with
    | false => rw [hle] at h; cases h
    | true =>
      rw [hle] at h
      rw [Bool.and_eq_true, decide_eq_true_eq] at hle
      have hre : row.e = e := Nat.eq_of_beq_eq_true hle.1
      have hrv := cast_ok hzs'
      refine ⟨_, _, h, ?_⟩
      intro a w Pr ρ cargs hp hH ho
      have hev := evAll_mem hargs (Pr := Pr) (w := w) (ρ := ρ) (cargs := cargs) (a := a) fun y hy v hv => ho.fv y (by rw [hop]; simpa [Op.operands, Call.operands] using hy) v hv
      obtain ⟨vd, u, hv, hd, hu⟩ := hev.two
      have hsl := (slice_ok hH hu hx).2
      have hd' : ρ[r]? = some vd := hd
      obtain ⟨vr, hvr, xs, hown, hxs, hnp⟩ := hH.row r row hrow
      rw [hd'] at hvr
      cases hvr
      rw [hrv, hre] at hown
      rw [hrv] at hxs
      obtain ⟨v', w', h1, ⟨xs', h2, h3⟩, h4, h5⟩ := step w vd u zs xs hown hxs (by
        rcases hsl with h | ⟨a, cap, h1, _, h2, _⟩
        · exact .inl h
        · exact .inr ⟨a, cap, h1, h2⟩) hle.2
      have hoth : HR w' Pr ρ (s.H.set r none) := by
        have hd2 := hH.drop r
        refine ⟨hd2.len, fun r' row' hrow' => ?_, hd2.apart, hH.ll.set h4.size (fun _ e => by cases e) (fun _ e => by cases e) fun g hg hg' => h4.block g hg fun e => hg' r row vd hrow hd' e.symm⟩
        obtain ⟨v2, hv2, hr2⟩ := hd2.row r' row' hrow'
        refine ⟨v2, hv2, hr2.keep fun g hg => h4.block g (hr2.lt hg) ?_⟩
        intro e2
        rcases rowAt_set hrow' with ⟨hne, hold⟩ | ⟨_, hx⟩
        · exact hH.apart r r' row row' vd v2 g hne hrow hold hd' hv2 e2.symm hg
        · cases hx
      refine yields_builtin hop (v := v') (w' := w') (fun consts => ?_) ⟨ρ ++ [v'], old_push _, ?_, hoth.push' ⟨xs', h2, h3, fun g hg hpr => ?_⟩ ?_ ?_, ⟨h4.os, h4.tape, h4.output, h4.size, fun k hk => h4.block k (hp k hk) (fun e2 => hnp k e2.symm hk)⟩⟩
      · rw [map_args hv, htsA]
        simp [builtin, h1]
      · show (ρ ++ [v'])[s.H.length]? = some v'
        rw [← hH.len]; simp
      · rcases h5 g hg with h | h
        · exact hnp g h hpr
        · have := hp g hpr
          omega
      · refine hH.ll.step h4.size (fun g hg hg' => h4.block g hg fun e => hg' r row vd hrow hd' e.symm) (fun r' row' hr' => ?_) (fun r' p hr' => ?_) fun r' row' u' g a1 a2 a3 => ?_
        · rcases llAt_push hr' with b | ⟨_, b, c⟩
          · rcases llAt_set b with ⟨_, b⟩ | ⟨_, b⟩
            · exact ⟨b, List.getElem?_append_left (by rw [hH.len]; exact llAt_lt b)⟩
            · cases b
          · cases b
            have := hT.ek2 hq
            rw [c] at this
            cases this
        · rcases alAt_push hr' with b | ⟨_, e', b⟩
          · rcases alAt_set b with ⟨_, b⟩ | ⟨_, e', b⟩
            · exact ⟨b, List.getElem?_append_left (by rw [hH.len]; exact alAt_lt b)⟩
            · cases b
          · have hkk : q.isAl = true := congrArg (fun x : Option Row => match x with
              | some row => row.v.k.isAl
              | none => false) b
            have := hT.ek2 hq
            rw [hkk, Bool.or_true] at this
            cases this
        · rcases rowAt_push a1 with b | ⟨rfl, b⟩
          · rcases rowAt_set b with ⟨_, b⟩ | ⟨_, b⟩
            · rw [List.getElem?_append_left (by rw [hH.len]; exact rowAt_lt b)] at a2
              exact .inr ⟨r', row', u', b, a2, a3⟩
            · cases b
          · rw [List.length_set, ← hH.len] at a2
            simp at a2
            subst a2
            rcases h5 g a3 with c | c
            · exact .inr ⟨r, row, vd, hrow, hd', c⟩
            · exact .inl c
      · intro g hg r' row' u' hrow' hu' hg'
        rcases rowAt_set hrow' with ⟨hne, hold⟩ | ⟨_, hx⟩
        · rcases h5 g hg with h | h
          · exact hH.apart r r' row row' vd u' g hne hrow hold hd' hu' h hg'
          · obtain ⟨u2, hu2, hr2⟩ := hH.row r' row' hold
            rw [hu'] at hu2
            cases hu2
            have := hr2.lt hg'
            omega
        · cases hx
  · cases h
theorem HR.reborn {w w' : World} {Pr : Nat → Prop} {ρ : List Value} {H : Hp} {r e : Nat} {row : Row} {vd v' : Value} {vec : Vec} (hH : HR w Pr ρ H) (hp : ∀ k, Pr k → k < w.heap.size) (hrow : rowAt H r = some row) (hd' : ρ[r]? = some vd)
    (hsz : w.heap.size ≤ w'.heap.size) (hold : ∀ g, g < w.heap.size → vd.ownBlock ≠ some g → w'.heap[g]? = w.heap[g]?) (hnew : ∃ xs', w'.ownsRow 0 e vec.k.sz v' vec.xs.length xs' ∧ AllR SCR vec.cells xs') (hk : (vec.k.is2 || vec.k.isAl) = false)
    (h5 : ∀ g, v'.ownBlock = some g → vd.ownBlock = some g ∨ w.heap.size ≤ g) : HR w' Pr (ρ ++ [v']) (H.set r none ++ [some ⟨e, vec⟩]) := by
  obtain ⟨vr, hvr, xs, hown, hxs, hnp⟩ := hH.row r row hrow
  rw [hd'] at hvr
  cases hvr
  obtain ⟨xs', h2, h3⟩ := hnew
  have hoth : HR w' Pr ρ (H.set r none) := by
    have hd2 := hH.drop r
    refine ⟨hd2.len, fun r' row' hrow' => ?_, hd2.apart, hH.ll.set hsz (fun _ e => by cases e) (fun _ e => by cases e) fun g hg hg' => hold g hg (hg' r row vd hrow hd')⟩
    obtain ⟨v2, hv2, hr2⟩ := hd2.row r' row' hrow'
    refine ⟨v2, hv2, hr2.keep fun g hg => hold g (hr2.lt hg) ?_⟩
    intro e2
    rcases rowAt_set hrow' with ⟨hne, hold⟩ | ⟨_, hx⟩
    · exact hH.apart r r' row row' vd v2 g hne hrow hold hd' hv2 e2 hg
    · cases hx
  refine hoth.push' ⟨xs', h2, h3, fun g hg hpr => ?_⟩ ?_ ?_
  · rcases h5 g hg with h | h
    · exact hnp g h hpr
    · have := hp g hpr
      omega
  · refine hH.ll.step hsz (fun g hg hg' => hold g hg (hg' r row vd hrow hd')) (fun r' row' hr' => ?_) (fun r' p hr' => ?_) fun r' row' u' g a1 a2 a3 => ?_
    · rcases llAt_push hr' with b | ⟨_, b, c⟩
      · rcases llAt_set b with ⟨_, b⟩ | ⟨_, b⟩
        · exact ⟨b, List.getElem?_append_left (by rw [hH.len]; exact llAt_lt b)⟩
        · cases b
      · cases b
        rw [c] at hk
        cases hk
    · rcases alAt_push hr' with b | ⟨_, e', b⟩
      · rcases alAt_set b with ⟨_, b⟩ | ⟨_, e', b⟩
        · exact ⟨b, List.getElem?_append_left (by rw [hH.len]; exact alAt_lt b)⟩
        · cases b
      · have hkk : vec.k.isAl = true := congrArg (fun x : Option Row => match x with
          | some row => row.v.k.isAl
          | none => false) b
        rw [hkk, Bool.or_true] at hk
        cases hk
    · rcases rowAt_push a1 with b | ⟨rfl, b⟩
      · rcases rowAt_set b with ⟨_, b⟩ | ⟨_, b⟩
        · rw [List.getElem?_append_left (by rw [hH.len]; exact rowAt_lt b)] at a2
          exact .inr ⟨r', row', u', b, a2, a3⟩
        · cases b
      · rw [List.length_set, ← hH.len] at a2
        simp at a2
        subst a2
        rcases h5 g a3 with c | c
        · exact .inr ⟨r, row, vd, hrow, hd', c⟩
        · exact .inl c
  · intro g hg r' row' u' hrow' hu' hg'
    rcases rowAt_set hrow' with ⟨hne, hold⟩ | ⟨_, hx⟩
    · rcases h5 g hg with h | h
      · exact hH.apart r r' row row' vd u' g hne hrow hold hd' hu' h hg'
      · obtain ⟨u2, hu2, hr2⟩ := hH.row r' row' hold
        rw [hu'] at hu2
        cases hu2
        have := hr2.lt hg'
        omega
    · cases hx
theorem HR.setRow {w w' : World} {Pr : Nat → Prop} {ρ : List Value} {H : Hp} {r : Nat} {row row' : Row} {vr : Value} (hH : HR w Pr ρ H) (hrow : rowAt H r = some row) (hr1 : ρ[r]? = some vr) (hnew : RowR w' Pr vr row'.e row'.v) (hk : (row'.v.k.is2 || row'.v.k.isAl) = false) (hsz : w.heap.size ≤ w'.heap.size)
    (hoth : ∀ g', vr.ownBlock ≠ some g' → w'.heap[g']? = w.heap[g']?) : HR w' Pr ρ (H.set r (some row')) := by
  refine ⟨by rw [List.length_set]; exact hH.len, fun r' row2 hrow' => ?_, fun r1 r2 row1 row2 v1 v2 g' hne h1 h2 h3 h4 h5 => ?_, hH.ll.set hsz (fun _ e => by cases e; exact hk) (fun _ _ => ⟨row, hrow⟩) fun g _ hg' => hoth g (hg' r row vr hrow hr1)⟩
  · rcases rowAt_set hrow' with ⟨hne, hold⟩ | ⟨rfl, hnew'⟩
    · obtain ⟨v', hv', hrr⟩ := hH.row r' row2 hold
      refine ⟨v', hv', hrr.keep fun g' hg' => hoth g' ?_⟩
      intro e
      exact hH.apart r r' row row2 vr v' g' hne hrow hold hr1 hv' e hg'
    · cases hnew'
      exact ⟨vr, hr1, hnew⟩
  · have key : ∀ {r' : Nat} {row2 : Row}, rowAt (H.set r (some row')) r' = some row2 → ∃ row'', rowAt H r' = some row'' := by
      intro r' row2 h
      rcases rowAt_set h with ⟨_, h⟩ | ⟨rfl, _⟩
      · exact ⟨_, h⟩
      · exact ⟨_, hrow⟩
    obtain ⟨row1', h1'⟩ := key h1
    obtain ⟨row2', h2'⟩ := key h2
    exact hH.apart r1 r2 row1' row2' v1 v2 g' hne h1' h2' h3 h4 h5
theorem cells_dropped (q : K) : ∀ (zs : List q.ty) (n : Nat), Vec.cells ⟨q, zs.drop n⟩ = (Vec.cells ⟨q, zs⟩).drop (n * q.sz)
  | [], n => by simp [Vec.cells]
  | z :: zs, 0 => by simp
  | z :: zs, n + 1 => by
    have ih := cells_dropped q zs n
    have e : (n + 1) * q.sz = (q.f z).cells.length + n * q.sz := by rw [K.len_f, Nat.add_mul]; omega
    have h : Vec.cells ⟨q, z :: zs⟩ = (q.f z).cells ++ Vec.cells ⟨q, zs⟩ := by simp [Vec.cells]
    have h2 : ((q.f z).cells ++ Vec.cells ⟨q, zs⟩).drop ((q.f z).cells.length + n * q.sz) = (Vec.cells ⟨q, zs⟩).drop (n * q.sz) := by
      rw [List.drop_append, List.drop_of_length_le (Nat.le_add_right _ _), Nat.add_sub_cancel_left, List.nil_append]
    rw [h, e, h2]
    exact ih
theorem does_copy (hT : TOK P T) {o : Oper} {s : St} {k : AV → Hp → R} {out : Out} {args : Array Operand} {ts : Array Nat} {t : Nat} {tl : List Nat} {d x : FV}
    (hop : o.op = .call { callee := .builtin .copy, args := args, argTypes := ts }) (hts : ts.toList = t :: tl) (hargs : evAll s args.toList = some [d, x])
    (h : copyK T s.H t d x (fun v H => k (.fv v) H) = some out) : ∃ av H', k av H' = some out ∧ Does P o s av H' := by
  unfold copyK at h
  split at h
  · cases h
  rename_i e he
  split at h
  · cases h
  rename_i q hq
  split at h
  · cases h
  rename_i b vx hx
  split at h
  · cases h
  rename_i ys hys
  have hvx := cast_ok hys
  subst hvx
  have htsA : ts[0]? = some t := by rw [← Array.getElem?_toList, hts]; rfl
  obtain ⟨i, z, dd, hi, hsz, _⟩ := hT.ek e q hq
  split at h
  · rename_i r
    split at h
    · cases h
    rename_i row hrow
    split at h
    · cases h
    rename_i zs hzs'
    cases hle : decide (ys.length ≤ zs.length) with
    | false => rw [hle] at h; cases h
    | true =>
      rw [hle] at h
      replace hle := of_decide_eq_true hle
      have hrv := cast_ok hzs'
      refine ⟨_, _, h, ?_⟩
      intro a w Pr ρ cargs hp hH ho
      have hev := evAll_mem hargs (Pr := Pr) (w := w) (ρ := ρ) (cargs := cargs) (a := a) fun y hy v hv => ho.fv y (by rw [hop]; simpa [Op.operands, Call.operands] using hy) v hv
      obtain ⟨vd, u, hv, hd, hu⟩ := hev.two
      have hsl := (slice_ok hH hu hx).2
      have hd' : ρ[r]? = some vd := hd
      obtain ⟨vr, hvr, xs, hown, hxs, hnp⟩ := hH.row r row hrow
      rw [hd'] at hvr
      cases hvr
      rw [hrv] at hown hxs
      dsimp only at hown hxs
      have hxl : xs.length = zs.length * q.sz := hown.1
      have hsrc : ∃ news : List Value, news.length = ys.length * q.sz ∧ AllR SCR (Vec.cells ⟨q, ys⟩) news ∧ (∀ v ∈ news, v.oneCell' = true) ∧ ∃ au lu cu, u = .slice au lu cu ∧ lu = ys.length ∧ (Builtin.firstCells q.sz ys.length u).run P w = .ok news.toArray w := by
        rcases hsl with ⟨rfl, h2⟩ | ⟨au, cu, rfl, _, hc, _⟩
        · have hy : ys = [] := h2
          subst hy
          exact ⟨[], by simp, by simp [Vec.cells, AllR], by simp, none, 0, 0, rfl, rfl, by simp [Builtin.firstCells]⟩
        · obtain ⟨news, hn1, hn2, hn3, hn4⟩ := slice_values hc
          refine ⟨news, hn1, hn2, hn4, some au, _, cu, rfl, rfl, ?_⟩
          have hl := run_loadCells_list (P := P) w au news hn3
          rw [hn1] at hl
          simpa [Builtin.firstCells] using hl
      obtain ⟨news, hn1, hn2, hn4, au, lu, cu, rfl, rfl, hfirst⟩ := hsrc
      have hmin : Nat.min ys.length zs.length = ys.length := Nat.min_eq_left hle
      have hnl : news.length ≤ xs.length := by rw [hn1, hxl]; exact Nat.mul_le_mul_right _ hle
      have hcells : AllR SCR (Vec.cells ⟨q, ys ++ zs.drop ys.length⟩) (news ++ xs.drop news.length) := by
        rw [cells_append, cells_dropped, hn1]
        exact hn2.append (hxs.drop _)
      have hzl : (ys ++ zs.drop ys.length).length = zs.length := by simp; omega
      rcases hown.2 with ⟨rfl, h0⟩ | ⟨g, cap, cur, rfl, rest⟩
      · -- nothing
        have hy0 : ys = [] := List.eq_nil_of_length_eq_zero (by omega)
        subst hy0
        have hnn : news = [] := List.eq_nil_of_length_eq_zero (by simpa using hn1)
        subst hnn
        refine yields_builtin hop (v := .int .i64 0) (w' := w) (fun consts => ?_) ⟨ρ, fun _ _ h => h, rfl, ?_, Keep.refl _ _⟩
        · have hf0 : (Builtin.firstCells q.sz 0 (.slice au 0 cu)).run P w = .ok #[] w := hfirst
          rw [map_args hv]
          simp [builtin, Builtin.copy_, htsA, run_underlying (hT.sl t e he), Builtin.lenOf, sizeOf, typeInfo, hi, hsz, hf0, goInt]
        · refine hH.setRow hrow hd' ⟨xs, ?_, ?_, hnp⟩ (hT.ek2 hq) (Nat.le_refl _) (fun _ _ => rfl)
          · rw [hzl]; exact hown
          · simpa using hcells
      · have hg : (Value.slice (some ⟨g, 0, none⟩) zs.length cap).ownBlock = some g := rfl
        obtain ⟨w', hst, hown', hoth, hos, htape, hout, hsize⟩ := write_row (P := P) hown hg 0 news (by omega) hn4
        refine yields_builtin hop (v := .int .i64 (ys.length : Int)) (w' := w') (fun consts => ?_) ⟨ρ, fun _ _ h => h, rfl, ?_, ⟨hos, htape, hout, by omega, fun j hj => hoth j (fun e => hnp g hg (e ▸ hj))⟩⟩
        · rw [map_args hv]
          simp [builtin, Builtin.copy_, htsA, run_underlying (hT.sl t e he), Builtin.lenOf, sizeOf, typeInfo, hi, hsz, hmin, hfirst, hst, goInt]
        · refine hH.setRow hrow hd' ⟨_, ?_, hcells, hnp⟩ (hT.ek2 hq) (by omega) (fun g' hg' => hoth g' fun e => hg' (by rw [e]; rfl))
          rw [hzl]
          simpa using hown'
  · cases h
end
end Go.Sm
namespace Go.Sm
open Go Go.RowKit
section
variable {P : Program} {T : TT}
def SameLL (ρ0 : List Value) (H0 : Hp) (ρ : List Value) (H : Hp) : Prop :=
  (∀ (r : Nat) (row : Row), llAt H r = some row → llAt H0 r = some row ∧ ρ[r]? = ρ0[r]?) ∧ ∀ (r : Nat) (p : Nat × Nat), alAt H r = some p → alAt H0 r = some p ∧ ρ[r]? = ρ0[r]?
def Grown (n : Nat) (ρ0 : List Value) (H0 : Hp) (ρ : List Value) (H : Hp) : Prop :=
  ∀ (r : Nat) (row : Row) (v : Value) (g : Nat), rowAt H r = some row → ρ[r]? = some v → v.ownBlock = some g → n ≤ g ∨ ∃ r0 row0 v0, rowAt H0 r0 = some row0 ∧ ρ0[r0]? = some v0 ∧ v0.ownBlock = some g
theorem takeBack_ok {w w' : World} {Pr : Nat → Prop} {cargs cs ρ0 : List Value} {H0 : Hp} (hp : ∀ k, Pr k → k < w.heap.size) {args : List FV} :
    ∀ (rs : List RV) (vs : List Value) (xs : List FV) (H H' : Hp) (ρ : List Value), AllR (RVR w w' cs) rs vs →
      (∀ (i j : Nat) (r r' : RV) (v v' : Value) (g : Nat), i ≠ j → rs[i]? = some r → rs[j]? = some r' → r.isFresh = true → r'.isFresh = true → vs[i]? = some v → vs[j]? = some v' → v.ownBlock = some g → v'.ownBlock ≠ some g) →
      takeBack args H rs = some (xs, H') → HR w' Pr ρ H → (∀ (ρ' : List Value) (H' : Hp), SameLL ρ0 H0 ρ' H' → Grown w.heap.size ρ0 H0 ρ' H' → LLR w' Pr ρ' H') → SameLL ρ0 H0 ρ H → Grown w.heap.size ρ0 H0 ρ H →
      (∀ (i : Nat) (r : RV) (v : Value) (g : Nat), rs[i]? = some r → r.isFresh = true → vs[i]? = some v → v.ownBlock = some g → ∀ (q : Nat) (row : Row) (u : Value), rowAt H q = some row → ρ[q]? = some u → u.ownBlock ≠ some g) →
      (∀ (i : Nat) (x : FV), args[i]? = some x → ∃ v, cs[i]? = some v ∧ FVR w' Pr ρ cargs x v) →
      ∃ ρ', (∀ (r : Nat) (u : Value), ρ[r]? = some u → ρ'[r]? = some u) ∧ AllR (FVR w' Pr ρ' cargs) xs vs ∧ HR w' Pr ρ' H'
  | [], [], xs, H, H', ρ, _, _, h, hH, _, _, _, _, _ => by
    simp [takeBack] at h
    obtain ⟨rfl, rfl⟩ := h
    exact ⟨ρ, fun _ _ h => h, trivial, hH⟩
  | r :: rs, v :: vs, xs, H, H', ρ, hv, hap, h, hH, hbase, hc1, hc2, hsep, hargs => by
    have hap' : ∀ (i j : Nat) (r r' : RV) (v v' : Value) (g : Nat), i ≠ j → rs[i]? = some r → rs[j]? = some r' → r.isFresh = true → r'.isFresh = true → vs[i]? = some v → vs[j]? = some v' → v.ownBlock = some g → v'.ownBlock ≠ some g :=
      fun i j r r' v v' g hne h1 h2 h3 h4 h5 h6 => hap (i + 1) (j + 1) r r' v v' g (by omega) (by simpa using h1) (by simpa using h2) h3 h4 (by simpa using h5) (by simpa using h6)
    have hsep' : ∀ (i : Nat) (r : RV) (v : Value) (g : Nat), rs[i]? = some r → r.isFresh = true → vs[i]? = some v → v.ownBlock = some g → ∀ (q : Nat) (row : Row) (u : Value), rowAt H q = some row → ρ[q]? = some u → u.ownBlock ≠ some g :=
      fun i r v g h1 h2 h3 => hsep (i + 1) r v g (by simpa using h1) h2 (by simpa using h3)
    cases r with
    | el e =>
      unfold takeBack at h
      split at h
      · rename_i ys H2 h2
        cases h
        obtain ⟨ρ', h3, h4, h5⟩ := takeBack_ok hp rs vs ys H H' ρ hv.2 hap' h2 hH hbase hc1 hc2 hsep' hargs
        exact ⟨ρ', h3, ⟨hv.1, h4⟩, h5⟩
      · cases h
    | nil =>
      unfold takeBack at h
      split at h
      · rename_i ys H2 h2
        cases h
        obtain ⟨ρ', h3, h4, h5⟩ := takeBack_ok hp rs vs ys H H' ρ hv.2 hap' h2 hH hbase hc1 hc2 hsep' hargs
        exact ⟨ρ', h3, ⟨hv.1, h4⟩, h5⟩
      · cases h
    | arg i =>
      unfold takeBack at h
      split at h
      · rename_i x ys H2 hx h2
        cases h
        obtain ⟨ρ', h3, h4, h5⟩ := takeBack_ok hp rs vs ys H H' ρ hv.2 hap' h2 hH hbase hc1 hc2 hsep' hargs
        obtain ⟨u, hu, hr⟩ := hargs i x hx
        have hv1 : cs[i]? = some v := hv.1
        rw [hv1] at hu
        cases hu
        exact ⟨ρ', h3, ⟨hr.keep (fun _ _ => rfl) h3, h4⟩, h5⟩
      · cases h
    | new2 e vec =>
      unfold takeBack at h
      cases h
    | newv e i =>
      unfold takeBack at h
      cases h
    | fresh e vec =>
      unfold takeBack at h
      cases hk2 : (vec.k.is2 || vec.k.isAl) with
      | true => rw [hk2] at h; cases h
      | false =>
      rw [hk2] at h
      simp only [cond_false] at h
      split at h
      · rename_i ys H2 h2
        cases h
        obtain ⟨us, hown, hus, hnew⟩ := hv.1
        have hrow : RowR w' Pr v e vec := ⟨us, hown, hus, fun g hg hpr => by have := hnew g hg; have := hp g hpr; omega⟩
        have d1 : SameLL ρ0 H0 (ρ ++ [v]) (H ++ [some ⟨e, vec⟩]) := by
          refine ⟨fun r row hr => ?_, fun r p hr => ?_⟩
          · rcases llAt_push hr with b | ⟨_, b, c⟩
            · obtain ⟨b1, b2⟩ := hc1.1 r row b
              exact ⟨b1, (List.getElem?_append_left (by rw [hH.len]; exact llAt_lt b)).trans b2⟩
            · cases b
              rw [c] at hk2
              cases hk2
          · rcases alAt_push hr with b | ⟨_, e', b⟩
            · obtain ⟨b1, b2⟩ := hc1.2 r p b
              exact ⟨b1, (List.getElem?_append_left (by rw [hH.len]; exact alAt_lt b)).trans b2⟩
            · cases b
              cases hk2
        have d2 : Grown w.heap.size ρ0 H0 (ρ ++ [v]) (H ++ [some ⟨e, vec⟩]) := by
          intro r row u g a1 a2 a3
          rcases rowAt_push a1 with b | ⟨rfl, b⟩
          · rw [List.getElem?_append_left (by rw [hH.len]; exact rowAt_lt b)] at a2
            exact hc2 r row u g b a2 a3
          · rw [← hH.len] at a2
            simp at a2
            subst a2
            exact .inl (hnew g a3)
        have hpush := hH.push' hrow (hbase _ _ d1 d2) fun g hg r' row u h1 h2 => hsep 0 (.fresh e vec) v g rfl rfl rfl hg r' row u h1 h2
        obtain ⟨ρ', h3, h4, h5⟩ := takeBack_ok hp rs vs ys _ H' (ρ ++ [v]) hv.2 hap' h2 hpush hbase d1 d2 (by
          intro i r' v' g h1 h2 h3 h4 q row u hq hu
          rcases rowAt_push hq with hq' | ⟨rfl, hq'⟩
          · obtain ⟨u2, hu2, _⟩ := hH.row q row hq'
            have := getElem?_push_old (v := v) hu2
            rw [hu] at this
            cases this
            exact hsep' i r' v' g h1 h2 h3 h4 q row _ hq' hu2
          · rw [← hH.len] at hu
            simp at hu
            subst hu
            intro hg
            exact hap 0 (i + 1) (.fresh e vec) r' v v' g (by omega) rfl (by simpa using h1) rfl h2 rfl (by simpa using h3) hg h4) (fun i x hx => by
          obtain ⟨u, hu, hr⟩ := hargs i x hx
          exact ⟨u, hu, hr.keep (fun _ _ => rfl) (old_push v)⟩)
        refine ⟨ρ', fun r u h => h3 r u (getElem?_push_old h), ⟨?_, h4⟩, h5⟩
        show ρ'[H.length]? = some v
        exact h3 _ _ (by rw [← hH.len]; simp)
      · cases h
  | [], _ :: _, _, _, _, _, hv, _, _, _, _, _, _, _, _ => hv.elim
  | _ :: _, [], _, _, _, _, hv, _, _, _, _, _, _, _, _ => hv.elim
def GrownN (N : Nat → Prop) (ρ0 : List Value) (H0 : Hp) (ρ : List Value) (H : Hp) : Prop :=
  ∀ (r : Nat) (row : Row) (v : Value) (g : Nat), rowAt H r = some row → ρ[r]? = some v → v.ownBlock = some g → N g ∨ ∃ r0 row0 v0, rowAt H0 r0 = some row0 ∧ ρ0[r0]? = some v0 ∧ v0.ownBlock = some g
theorem takeBackN_ok {w' : World} {N : Nat → Prop} {Pr : Nat → Prop} {cargs cs ρ0 : List Value} {H0 : Hp} (hp : ∀ k, N k → ¬ Pr k) {args : List FV} :
    ∀ (rs : List RV) (vs : List Value) (xs : List FV) (H H' : Hp) (ρ : List Value), AllR (RVN N w' cs) rs vs →
      (∀ (i j : Nat) (r r' : RV) (v v' : Value) (g : Nat), i ≠ j → rs[i]? = some r → rs[j]? = some r' → r.isFresh = true → r'.isFresh = true → vs[i]? = some v → vs[j]? = some v' → v.ownBlock = some g → v'.ownBlock ≠ some g) →
      takeBack args H rs = some (xs, H') → HR w' Pr ρ H → (∀ (ρ' : List Value) (H' : Hp), SameLL ρ0 H0 ρ' H' → GrownN N ρ0 H0 ρ' H' → LLR w' Pr ρ' H') → SameLL ρ0 H0 ρ H → GrownN N ρ0 H0 ρ H →
      (∀ (i : Nat) (r : RV) (v : Value) (g : Nat), rs[i]? = some r → r.isFresh = true → vs[i]? = some v → v.ownBlock = some g → ∀ (q : Nat) (row : Row) (u : Value), rowAt H q = some row → ρ[q]? = some u → u.ownBlock ≠ some g) →
      (∀ (i : Nat) (x : FV), args[i]? = some x → ∃ v, cs[i]? = some v ∧ FVR w' Pr ρ cargs x v) →
      ∃ ρ', (∀ (r : Nat) (u : Value), ρ[r]? = some u → ρ'[r]? = some u) ∧ AllR (FVR w' Pr ρ' cargs) xs vs ∧ HR w' Pr ρ' H'
  | [], [], xs, H, H', ρ, _, _, h, hH, _, _, _, _, _ => by
    simp [takeBack] at h
    obtain ⟨rfl, rfl⟩ := h
    exact ⟨ρ, fun _ _ h => h, trivial, hH⟩
  | r :: rs, v :: vs, xs, H, H', ρ, hv, hap, h, hH, hbase, hc1, hc2, hsep, hargs => by
    have hap' : ∀ (i j : Nat) (r r' : RV) (v v' : Value) (g : Nat), i ≠ j → rs[i]? = some r → rs[j]? = some r' → r.isFresh = true → r'.isFresh = true → vs[i]? = some v → vs[j]? = some v' → v.ownBlock = some g → v'.ownBlock ≠ some g :=
      fun i j r r' v v' g hne h1 h2 h3 h4 h5 h6 => hap (i + 1) (j + 1) r r' v v' g (by omega) (by simpa using h1) (by simpa using h2) h3 h4 (by simpa using h5) (by simpa using h6)
    have hsep' : ∀ (i : Nat) (r : RV) (v : Value) (g : Nat), rs[i]? = some r → r.isFresh = true → vs[i]? = some v → v.ownBlock = some g → ∀ (q : Nat) (row : Row) (u : Value), rowAt H q = some row → ρ[q]? = some u → u.ownBlock ≠ some g :=
      fun i r v g h1 h2 h3 => hsep (i + 1) r v g (by simpa using h1) h2 (by simpa using h3)
    cases r with
    | el e =>
      unfold takeBack at h
      split at h
      · rename_i ys H2 h2
        cases h
        obtain ⟨ρ', h3, h4, h5⟩ := takeBackN_ok hp rs vs ys H H' ρ hv.2 hap' h2 hH hbase hc1 hc2 hsep' hargs
        exact ⟨ρ', h3, ⟨hv.1, h4⟩, h5⟩
      · cases h
    | nil =>
      unfold takeBack at h
      split at h
      · rename_i ys H2 h2
        cases h
        obtain ⟨ρ', h3, h4, h5⟩ := takeBackN_ok hp rs vs ys H H' ρ hv.2 hap' h2 hH hbase hc1 hc2 hsep' hargs
        exact ⟨ρ', h3, ⟨hv.1, h4⟩, h5⟩
      · cases h
    | arg i =>
      unfold takeBack at h
      split at h
      · rename_i x ys H2 hx h2
        cases h
        obtain ⟨ρ', h3, h4, h5⟩ := takeBackN_ok hp rs vs ys H H' ρ hv.2 hap' h2 hH hbase hc1 hc2 hsep' hargs
        obtain ⟨u, hu, hr⟩ := hargs i x hx
        have hv1 : cs[i]? = some v := hv.1
        rw [hv1] at hu
        cases hu
        exact ⟨ρ', h3, ⟨hr.keep (fun _ _ => rfl) h3, h4⟩, h5⟩
      · cases h
    | new2 e vec =>
      unfold takeBack at h
      cases h
    | newv e i =>
      unfold takeBack at h
      cases h
    | fresh e vec =>
      unfold takeBack at h
      cases hk2 : (vec.k.is2 || vec.k.isAl) with
      | true => rw [hk2] at h; cases h
      | false =>
      rw [hk2] at h
      simp only [cond_false] at h
      split at h
      · rename_i ys H2 h2
        cases h
        obtain ⟨us, hown, hus, hnew⟩ := hv.1
        have hrow : RowR w' Pr v e vec := ⟨us, hown, hus, fun g hg => hp g (hnew g hg)⟩
        have d1 : SameLL ρ0 H0 (ρ ++ [v]) (H ++ [some ⟨e, vec⟩]) := by
          refine ⟨fun r row hr => ?_, fun r p hr => ?_⟩
          · rcases llAt_push hr with b | ⟨_, b, c⟩
            · obtain ⟨b1, b2⟩ := hc1.1 r row b
              exact ⟨b1, (List.getElem?_append_left (by rw [hH.len]; exact llAt_lt b)).trans b2⟩
            · cases b
              rw [c] at hk2
              cases hk2
          · rcases alAt_push hr with b | ⟨_, e', b⟩
            · obtain ⟨b1, b2⟩ := hc1.2 r p b
              exact ⟨b1, (List.getElem?_append_left (by rw [hH.len]; exact alAt_lt b)).trans b2⟩
            · cases b
              cases hk2
        have d2 : GrownN N ρ0 H0 (ρ ++ [v]) (H ++ [some ⟨e, vec⟩]) := by
          intro r row u g a1 a2 a3
          rcases rowAt_push a1 with b | ⟨rfl, b⟩
          · rw [List.getElem?_append_left (by rw [hH.len]; exact rowAt_lt b)] at a2
            exact hc2 r row u g b a2 a3
          · rw [← hH.len] at a2
            simp at a2
            subst a2
            exact .inl (hnew g a3)
        have hpush := hH.push' hrow (hbase _ _ d1 d2) fun g hg r' row u h1 h2 => hsep 0 (.fresh e vec) v g rfl rfl rfl hg r' row u h1 h2
        obtain ⟨ρ', h3, h4, h5⟩ := takeBackN_ok hp rs vs ys _ H' (ρ ++ [v]) hv.2 hap' h2 hpush hbase d1 d2 (by
          intro i r' v' g h1 h2 h3 h4 q row u hq hu
          rcases rowAt_push hq with hq' | ⟨rfl, hq'⟩
          · obtain ⟨u2, hu2, _⟩ := hH.row q row hq'
            have := getElem?_push_old (v := v) hu2
            rw [hu] at this
            cases this
            exact hsep' i r' v' g h1 h2 h3 h4 q row _ hq' hu2
          · rw [← hH.len] at hu
            simp at hu
            subst hu
            intro hg
            exact hap 0 (i + 1) (.fresh e vec) r' v v' g (by omega) rfl (by simpa using h1) rfl h2 rfl (by simpa using h3) hg h4) (fun i x hx => by
          obtain ⟨u, hu, hr⟩ := hargs i x hx
          exact ⟨u, hu, hr.keep (fun _ _ => rfl) (old_push v)⟩)
        refine ⟨ρ', fun r u h => h3 r u (getElem?_push_old h), ⟨?_, h4⟩, h5⟩
        show ρ'[H.length]? = some v
        exact h3 _ _ (by rw [← hH.len]; simp)
      · cases h
  | [], _ :: _, _, _, _, _, hv, _, _, _, _, _, _, _, _ => hv.elim
  | _ :: _, [], _, _, _, _, hv, _, _, _, _, _, _, _, _ => hv.elim
theorem caps_ok {w : World} {Pr : Nat → Prop} {ρ cargs : List Value} {caps : List PT} {cs : List Value} (h : AllR (PtR w Pr ρ) caps cs) : AllR (FVR w Pr ρ cargs) (caps.map .pt) cs := by
  refine AllR.of_get (by simp [h.length]) fun i y v hy hv => ?_
  rw [List.getElem?_map] at hy
  obtain ⟨p, hp1, hp2⟩ := Option.map_eq_some_iff.1 hy
  subst hp2
  obtain ⟨v', hv', hr⟩ := h.get i p hp1
  rw [hv] at hv'
  cases hv'
  exact hr
theorem allEl_ok {w w' : World} {Pr Pr' : Nat → Prop} {ρ ρ' cargs cargs' : List Value} : ∀ {xs : List FV} {vs : List Value}, allEl xs = true → AllR (FVR w Pr ρ cargs) xs vs → AllR (FVR w' Pr' ρ' cargs') xs vs
  | [], [], _, _ => trivial
  | .el e :: xs, v :: vs, h, hv => ⟨hv.1, allEl_ok (xs := xs) h hv.2⟩
  | [], _ :: _, _, hv => hv.elim
  | .el _ :: _, [], _, hv => hv.elim
  | .nil :: _, _, h, _ => by cases h
  | .vw _ _ :: _, _, h, _ => by cases h
  | .own _ :: _, _, h, _ => by cases h
  | .pt _ :: _, _, h, _ => by cases h
  | .fn _ _ :: _, _, h, _ => by cases h
  | .vv _ _ _ :: _, _, h, _ => by cases h
  | .pv _ _ _ :: _, _, h, _ => by cases h
  | .ne _ :: _, _, h, _ => by cases h
  | .pl _ _ :: _, _, h, _ => by cases h
  | .mv _ _ _ :: _, _, h, _ => by cases h
  | .pm _ _ _ _ :: _, _, h, _ => by cases h
theorem HR.setIn {w w' : World} {Pr : Nat → Prop} {ρ : List Value} {H : Hp} {r i : Nat} {row : Row} {z : (k : K) × List (List k.ty)} {ys : List z.1.ty} {vec : Vec} {vr u : Value} {us : List Value} {I : Nat → Nat → Prop}
    (hH : HR w Pr ρ H) (hI : LLI I w Pr ρ H) (hr : llAt H r = some row) (hz : row.v.two = some z) (hv : Vec.of2 z.1 (z.2.set i ys) = some vec) (hvr : ρ[r]? = some vr) (a2 : w.ownsRow 0 row.e 1 vr z.2.length us)
    (a3 : AllR (fun xs u => InnR w (I r) z.1 xs u) z.2 us) (ad : DistR us) (aa : AliR ρ H r us) (a4 : ∀ g, vr.ownBlock = some g → ¬ I r g)
    (a5 : ∀ g, (I r g ∨ vr.ownBlock = some g) → g < w.heap.size ∧ ¬ Pr g ∧ (∀ (r' : Nat) (row' : Row) (v' : Value), rowAt H r' = some row' → ρ[r']? = some v' → v'.ownBlock ≠ some g) ∧
      (∀ (r' : Nat) (row' : Row) (v' : Value), r' ≠ r → llAt H r' = some row' → ρ[r']? = some v' → ¬ I r' g ∧ v'.ownBlock ≠ some g))
    (hu : us[i]? = some u) (hnew : InnR w' (fun k => u.ownBlock = some k) z.1 ys u) (hoth : ∀ k, k < w.heap.size → u.ownBlock ≠ some k → w'.heap[k]? = w.heap[k]?) (hsz : w.heap.size ≤ w'.heap.size) : HR w' Pr ρ (H.set r (some ⟨row.e, vec⟩)) := by
  have hv2 := of2_two hv
  have hvk := two_is2 hv2
  obtain ⟨xs0, hxs0, hu0⟩ := a3.getR i u hu
  have huI : ∀ k, u.ownBlock = some k → I r k := fun k hk => by obtain ⟨_, _, _, _, h⟩ := hu0; exact h k hk
  have rold : ∀ {q : Nat} {row' : Row}, rowAt (H.set r (some ⟨row.e, vec⟩)) q = some row' → r ≠ q ∧ rowAt H q = some row' := by
    intro q row' h
    rcases rowAt_set h with h1 | ⟨rfl, h1⟩
    · exact h1
    · cases h1
      have := (rowAt_is2 h).1
      rw [hvk] at this
      cases this
  have lold : ∀ {q : Nat} {row' : Row}, llAt (H.set r (some ⟨row.e, vec⟩)) q = some row' → (r ≠ q ∧ llAt H q = some row') ∨ (r = q ∧ row' = ⟨row.e, vec⟩) := by
    intro q row' h
    rcases llAt_set h with h1 | ⟨e, h1⟩
    · exact .inl h1
    · cases h1
      exact .inr ⟨e, rfl⟩
  have aold : ∀ {q : Nat} {p : Nat × Nat}, alAt (H.set r (some ⟨row.e, vec⟩)) q = some p → alAt H q = some p := by
    intro q p h
    rcases alAt_set h with ⟨_, h1⟩ | ⟨_, e, h1⟩
    · exact h1
    · cases h1
      cases hvk
  refine ⟨by rw [List.length_set]; exact hH.len, fun q row' h => ?_, fun q q' row' row'' v v' k hne h1 h2 h3 h4 h5 => hH.apart q q' row' row'' v v' k hne (rold h1).2 (rold h2).2 h3 h4 h5, I, fun q row' z' h1 h2 => ?_⟩
  · obtain ⟨v, hv', hrr⟩ := hH.row q row' (rold h).2
    exact ⟨v, hv', hrr.keep fun k hk => hoth k (hrr.lt hk) fun e => (a5 k (.inl (huI k e))).2.2.1 q row' v (rold h).2 hv' hk⟩
  · rcases lold h1 with ⟨n, h⟩ | ⟨rfl, rfl⟩
    · obtain ⟨v, us', c1, c2, c3, cd, ca, c4, c5⟩ := hI q row' z' h h2
      have hkp : ∀ k, (I q k ∨ v.ownBlock = some k) → w'.heap[k]? = w.heap[k]? := fun k hk => hoth k (c5 k hk).1 fun e => by
        obtain ⟨d1, d2⟩ := (a5 k (.inl (huI k e))).2.2.2 q row' v n.symm h c1
        rcases hk with hk | hk
        · exact d1 hk
        · exact d2 hk
      refine ⟨v, us', c1, ownsRow_keep (fun k hk => hkp k (.inr hk)) c2, c3.mono fun xs y hy => hy.keep fun k hk => hkp k (.inl hk), cd, fun j i' hj hlt => ca j i' (aold hj) hlt, c4, fun k hk => ?_⟩
      obtain ⟨d1, d2, d3, d4⟩ := c5 k hk
      refine ⟨by omega, d2, fun r' row'' v' e1 e2 => d3 r' row'' v' (rold e1).2 e2, fun r' row'' v' e0 e1 e2 => ?_⟩
      rcases lold e1 with ⟨n', e1'⟩ | ⟨rfl, rfl⟩
      · exact d4 r' row'' v' e0 e1' e2
      · exact d4 r row v' e0 hr e2
    · rw [hv2] at h2
      cases h2
      refine ⟨vr, us, hvr, ?_, ?_, ad, fun j i' hj hlt => aa j i' (aold hj) hlt, a4, fun k hk => ?_⟩
      · rw [List.length_set]
        exact ownsRow_keep (fun k hk => hoth k (a5 k (.inr hk)).1 fun e => a4 k hk (huI k e)) a2
      · refine AllR.of_get (by rw [List.length_set]; exact a3.length) fun j xs y hj hy => ?_
        rw [List.getElem?_set] at hj
        by_cases e : i = j
        · rw [if_pos e] at hj
          subst e
          rw [hu] at hy
          cases hy
          split at hj
          · cases hj
            exact hnew.mono huI
          · cases hj
        · rw [if_neg e] at hj
          obtain ⟨y', hy', hin⟩ := a3.get j xs hj
          rw [hy] at hy'
          cases hy'
          obtain ⟨e1, vs1, f1, f2, f3⟩ := hin
          exact ⟨e1, vs1, ownsRow_keep (fun k hk => hoth k (a5 k (.inl (f3 k hk))).1 (ad j i y u k (fun h => e h.symm) hy hu hk)) f1, f2, f3⟩
      · obtain ⟨d1, d2, d3, d4⟩ := a5 k hk
        refine ⟨by omega, d2, fun r' row'' v' e1 e2 => d3 r' row'' v' (rold e1).2 e2, fun r' row'' v' e0 e1 e2 => ?_⟩
        rcases lold e1 with ⟨n', e1'⟩ | ⟨e3, _⟩
        · exact d4 r' row'' v' e0 e1' e2
        · exact absurd e3.symm e0
theorem HR.set2 {w w' : World} {Pr : Nat → Prop} {ρ : List Value} {H : Hp} {r : Nat} {row : Row} {z' : (k : K) × List (List k.ty)} {vec : Vec} {vr : Value} {I : Nat → Nat → Prop} {I' : Nat → Prop}
    (hH : HR w Pr ρ H) (hp : ∀ k, Pr k → k < w.heap.size) (hI : LLI I w Pr ρ H) (hr : llAt H r = some row) (hz' : vec.two = some z') (hvr : ρ[r]? = some vr) (hna : noAl H = true)
    (a5 : ∀ g, (I r g ∨ vr.ownBlock = some g) → g < w.heap.size ∧ ¬ Pr g ∧ (∀ (r' : Nat) (row' : Row) (v' : Value), rowAt H r' = some row' → ρ[r']? = some v' → v'.ownBlock ≠ some g) ∧
      (∀ (r' : Nat) (row' : Row) (v' : Value), r' ≠ r → llAt H r' = some row' → ρ[r']? = some v' → ¬ I r' g ∧ v'.ownBlock ≠ some g))
    (hnew : LL2 I' w' vr row.e z') (hsub : ∀ g, I' g → I r g ∨ w.heap.size ≤ g) (hoth : ∀ k, k < w.heap.size → vr.ownBlock ≠ some k → ¬ I r k → w'.heap[k]? = w.heap[k]?) (hsz : w.heap.size ≤ w'.heap.size) : HR w' Pr ρ (H.set r (some ⟨row.e, vec⟩)) := by
  have hvk := two_is2 hz'
  have rold : ∀ {q : Nat} {row' : Row}, rowAt (H.set r (some ⟨row.e, vec⟩)) q = some row' → r ≠ q ∧ rowAt H q = some row' := by
    intro q row' h
    rcases rowAt_set h with h1 | ⟨rfl, h1⟩
    · exact h1
    · cases h1
      have := (rowAt_is2 h).1
      rw [hvk] at this
      cases this
  have lold : ∀ {q : Nat} {row' : Row}, llAt (H.set r (some ⟨row.e, vec⟩)) q = some row' → (r ≠ q ∧ llAt H q = some row') ∨ (r = q ∧ row' = ⟨row.e, vec⟩) := by
    intro q row' h
    rcases llAt_set h with h1 | ⟨e, h1⟩
    · exact .inl h1
    · cases h1
      exact .inr ⟨e, rfl⟩
  have hnal : ∀ (j : Nat) (p : Nat × Nat), alAt (H.set r (some ⟨row.e, vec⟩)) j ≠ some p := by
    intro j p h
    rcases alAt_set h with ⟨_, h1⟩ | ⟨_, e, h1⟩
    · rw [noAl_spec hna] at h1; cases h1
    · cases h1
      cases hvk
  refine ⟨by rw [List.length_set]; exact hH.len, fun q row' h => ?_, fun q q' row' row'' v v' k hne h1 h2 h3 h4 h5 => hH.apart q q' row' row'' v v' k hne (rold h1).2 (rold h2).2 h3 h4 h5, fun q k => (q = r ∧ I' k) ∨ (q ≠ r ∧ I q k), fun q row' z2 h1 h2 => ?_⟩
  · obtain ⟨v, hv', hrr⟩ := hH.row q row' (rold h).2
    exact ⟨v, hv', hrr.keep fun k hk => hoth k (hrr.lt hk) (fun e => (a5 k (.inr e)).2.2.1 q row' v (rold h).2 hv' hk) fun e => (a5 k (.inl e)).2.2.1 q row' v (rold h).2 hv' hk⟩
  · rcases lold h1 with ⟨n, h⟩ | ⟨rfl, rfl⟩
    · obtain ⟨v, us', c1, c2, c3, cd, _, c4, c5⟩ := hI q row' z2 h h2
      have hkp : ∀ k, (I q k ∨ v.ownBlock = some k) → w'.heap[k]? = w.heap[k]? := fun k hk => by
        have key : ∀ k, (I r k ∨ vr.ownBlock = some k) → ¬ (I q k ∨ v.ownBlock = some k) := fun k hk' h' => by
          obtain ⟨d1, d2⟩ := (a5 k hk').2.2.2 q row' v n.symm h c1
          rcases h' with h' | h'
          · exact d1 h'
          · exact d2 h'
        exact hoth k (c5 k hk).1 (fun e => key k (.inr e) hk) fun e => key k (.inl e) hk
      refine ⟨v, us', c1, ownsRow_keep (fun k hk => hkp k (.inr hk)) c2, c3.mono fun xs y hy => (hy.keep fun k hk => hkp k (.inl hk)).mono fun k hk => .inr ⟨n.symm, hk⟩, cd, fun j i' hj => absurd hj (hnal j _), ?_, fun k hk => ?_⟩
      · rintro k hk (⟨e, _⟩ | ⟨_, h'⟩)
        · exact n e.symm
        · exact c4 k hk h'
      · have hk' : I q k ∨ v.ownBlock = some k := by
          rcases hk with (⟨e, _⟩ | ⟨_, h'⟩) | h'
          · exact absurd e.symm n
          · exact .inl h'
          · exact .inr h'
        obtain ⟨d1, d2, d3, d4⟩ := c5 k hk'
        refine ⟨by omega, d2, fun r' row'' v' e1 e2 => d3 r' row'' v' (rold e1).2 e2, fun r' row'' v' e0 e1 e2 => ?_⟩
        rcases lold e1 with ⟨n', e1'⟩ | ⟨rfl, rfl⟩
        · obtain ⟨f1, f2⟩ := d4 r' row'' v' e0 e1' e2
          refine ⟨?_, f2⟩
          rintro (⟨e, _⟩ | ⟨_, h'⟩)
          · exact n' e.symm
          · exact f1 h'
        · obtain ⟨f1, f2⟩ := d4 r row v' e0 hr e2
          refine ⟨?_, f2⟩
          rintro (⟨_, h'⟩ | ⟨e, _⟩)
          · rcases hsub k h' with h3 | h3
            · exact f1 h3
            · omega
          · exact e rfl
    · rw [hz'] at h2
      cases h2
      obtain ⟨us, b1, b2, b3, b4, b5⟩ := hnew
      refine ⟨vr, us, hvr, b1, b2.mono fun xs y hy => hy.mono fun k hk => .inl ⟨rfl, hk⟩, b3, fun j i' hj => absurd hj (hnal j _), ?_, fun k hk => ?_⟩
      · rintro k hk (⟨_, h'⟩ | ⟨e, _⟩)
        · exact b4 k hk h'
        · exact e rfl
      · have hk' : I' k ∨ vr.ownBlock = some k := by
          rcases hk with (⟨_, h'⟩ | ⟨e, _⟩) | h'
          · exact .inl h'
          · exact absurd rfl e
          · exact .inr h'
        have hlt := b5 k hk'
        have hcase : (I r k ∨ vr.ownBlock = some k) ∨ w.heap.size ≤ k := by
          rcases hk' with h' | h'
          · rcases hsub k h' with h3 | h3
            · exact .inl (.inl h3)
            · exact .inr h3
          · exact .inl (.inr h')
        rcases hcase with hc | hc
        · obtain ⟨d1, d2, d3, d4⟩ := a5 k hc
          refine ⟨hlt, d2, fun r' row'' v' e1 e2 => d3 r' row'' v' (rold e1).2 e2, fun r' row'' v' e0 e1 e2 => ?_⟩
          rcases lold e1 with ⟨n', e1'⟩ | ⟨e3, _⟩
          · obtain ⟨f1, f2⟩ := d4 r' row'' v' e0 e1' e2
            refine ⟨?_, f2⟩
            rintro (⟨e, _⟩ | ⟨_, h'⟩)
            · exact n' e.symm
            · exact f1 h'
          · exact absurd e3.symm e0
        · refine ⟨hlt, fun h' => by have := hp k h'; omega, fun r' row'' v' e1 e2 h' => ?_, fun r' row'' v' e0 e1 e2 => ?_⟩
          · obtain ⟨u, f1, f2⟩ := hH.row r' row'' (rold e1).2
            rw [e2] at f1
            cases f1
            have := f2.lt h'
            omega
          · rcases lold e1 with ⟨n', e1'⟩ | ⟨e3, _⟩
            · obtain ⟨z3, hz3⟩ := two_some (llAt_is2 e1').1
              obtain ⟨u, _, f1, _, _, _, _, _, f5⟩ := hI r' row'' z3 e1' hz3
              rw [e2] at f1
              cases f1
              refine ⟨?_, fun h' => by have := (f5 k (.inr h')).1; omega⟩
              rintro (⟨e, _⟩ | ⟨_, h'⟩)
              · exact n' e.symm
              · have := (f5 k (.inl h')).1
                omega
            · exact absurd e3.symm e0
theorem LLR.gone {w w' : World} {Pr : Nat → Prop} {ρ ρ' : List Value} {H H' : Hp} {I : Nat → Nat → Prop} {r : Nat} (hH : HR w Pr ρ H) (hI : LLI I w Pr ρ H) (hsz : w.heap.size ≤ w'.heap.size)
    (hheap : ∀ g, g < w.heap.size → ¬ OB I ρ H r g → w'.heap[g]? = w.heap[g]?) (ha : SameLL ρ (H.set r none) ρ' H') (hb : GrownN (fun g => w.heap.size ≤ g ∨ OB I ρ H r g) ρ (H.set r none) ρ' H') : LLR w' Pr ρ' H' := by
  have key : ∀ {q : Nat} {row : Row}, llAt H' q = some row → r ≠ q ∧ llAt H q = some row ∧ ρ'[q]? = ρ[q]? := by
    intro q row h
    obtain ⟨h3, h4⟩ := ha.1 q row h
    rcases llAt_set h3 with ⟨n, h5⟩ | ⟨_, h5⟩
    · exact ⟨n, h5, h4⟩
    · cases h5
  refine ⟨I, fun q row z h1 h2 => ?_⟩
  obtain ⟨n, h3, h4⟩ := key h1
  obtain ⟨v, us, a1, a2, a3, ad, aa, a4, a5⟩ := hI q row z h3 h2
  have hob : ∀ g, (I q g ∨ v.ownBlock = some g) → OB I ρ H q g := fun g hg => .inr ⟨row, v, h3, a1, hg⟩
  have hk : ∀ g, (I q g ∨ v.ownBlock = some g) → w'.heap[g]? = w.heap[g]? := fun g hg => hheap g (a5 g hg).1 fun h => n (h.uniq hH hI (hob g hg))
  refine ⟨v, us, h4.trans a1, ownsRow_keep (fun g hg => hk g (.inr hg)) a2, a3.mono fun xs u h => h.keep fun g hg => hk g (.inl hg), ad, fun j i hj hlt => ?_, a4, fun g hg => ?_⟩
  · obtain ⟨c1, c2⟩ := ha.2 j (q, i) hj
    rcases alAt_set c1 with ⟨_, c1⟩ | ⟨_, e, c1⟩
    · obtain ⟨u, c3, c4⟩ := aa j i c1 hlt
      exact ⟨u, c2.trans c3, c4⟩
    · cases c1
  obtain ⟨b1, b2, b3, b4⟩ := a5 g hg
  refine ⟨by omega, b2, fun r' row' v' c1 c2 c3 => ?_, fun r' row' v' c0 c1 c2 => ?_⟩
  · rcases hb r' row' v' g c1 c2 c3 with (d | d) | ⟨r0, row0, v0, d1, d2, d3⟩
    · omega
    · exact n (d.uniq hH hI (hob g hg))
    · rcases rowAt_set d1 with ⟨_, d1⟩ | ⟨_, d1⟩
      · exact b3 r0 row0 v0 d1 d2 d3
      · cases d1
  · obtain ⟨_, e1, e2⟩ := key c1
    exact b4 r' row' v' c0 e1 (e2.symm.trans c2)
theorem HR.gone {w w' : World} {Pr : Nat → Prop} {ρ : List Value} {H : Hp} {I : Nat → Nat → Prop} {r : Nat} (hH : HR w Pr ρ H) (hI : LLI I w Pr ρ H) (hsz : w.heap.size ≤ w'.heap.size)
    (hheap : ∀ g, g < w.heap.size → ¬ OB I ρ H r g → w'.heap[g]? = w.heap[g]?) : HR w' Pr ρ (H.set r none) := by
  have key : ∀ {r' : Nat} {row' : Row}, rowAt (H.set r none) r' = some row' → r ≠ r' ∧ rowAt H r' = some row' := by
    intro r' row' h
    rcases rowAt_set h with h | ⟨_, h⟩
    · exact h
    · cases h
  refine ⟨by rw [List.length_set]; exact hH.len, fun r' row' h => ?_, fun r1 r2 row1 row2 v1 v2 g hne h1 h2 h3 h4 h5 => ?_, LLR.gone hH hI hsz hheap ⟨fun _ _ h => ⟨h, rfl⟩, fun _ _ h => ⟨h, rfl⟩⟩ fun r row v g h1 h2 h3 => .inr ⟨r, row, v, h1, h2, h3⟩⟩
  · obtain ⟨n, h1⟩ := key h
    obtain ⟨v, a1, a2⟩ := hH.row r' row' h1
    exact ⟨v, a1, a2.keep fun g hg => hheap g (a2.lt hg) fun hob => n (hob.uniq hH hI (.inl ⟨row', v, h1, a1, hg⟩))⟩
  · exact hH.apart r1 r2 row1 row2 v1 v2 g hne (key h1).2 (key h2).2 h3 h4 h5
theorem does_callLL (hT : TOK P T) {o : Oper} {s : St} {k : AV → Hp → R} {out : Out} {x : Operand} {args : Array Operand} {ts : Array TypeId} {g r : Nat} {ys zs : List FV}
    (ho : o.op = .call { callee := .value x, args := args, argTypes := ts }) (hg : evO s x = some (.fn g [])) (hxs : evAll s args.toList = some (.own r :: ys)) (hrow : rowAt s.H r = none) (hzs : closeAll s.H ys = some zs) (hall : allEl zs = true)
    (h : callLLK T s.H g r (.own r :: ys) zs (fun vs H => k (packed vs) H) = some out) : ∃ av H', k av H' = some out ∧ Does P o s av H' := by
  unfold callLLK at h
  split at h
  · rename_i p hal
    split at h
    · rename_i row hll
      cases hlt : Nat.blt p.1 r with
      | false => rw [hlt] at h; cases h
      | true =>
        rw [hlt] at h
        have hlt' : p.1 < r := Nat.le_of_ble_eq_true hlt
        simp only [cond_true] at h
        split at h
        · rename_i z hz
          split at h
          · rename_i l hl
            obtain ⟨rs, vec', hreal, hcok, hk⟩ := hT.M _ _ _ _ _ h
            cases hq : quietRV rs with
            | false => rw [hq] at hk; cases hk
            | true =>
              rw [hq] at hk
              simp only [cond_true] at hk
              split at hk
              · rename_i l' hl'
                split at hk
                · rename_i vec hvec
                  split at hk
                  · rename_i vs H' htb
                    refine ⟨_, _, hk, ?_⟩
                    intro a w Pr ρ cargs hp hH hop
                    obtain ⟨cs, hcs, hcaps⟩ := hop.fv x (by rw [ho]; exact operands_call (.inl rfl)) _ hg
                    have hcs0 : cs = [] := by cases cs with
                      | nil => rfl
                      | cons c cs => exact hcaps.elim
                    subst hcs0
                    have hargs : AllR (FVR w Pr ρ cargs) (.own r :: ys) (args.toList.map a.eval) := evAll_mem hxs fun y hy v hv => hop.fv y (by rw [ho]; exact operands_call (.inr hy)) v hv
                    cases hle : args.toList.map a.eval with
                    | nil => rw [hle] at hargs; exact hargs.elim
                    | cons v us =>
                      rw [hle] at hargs
                      have hv : ρ[r]? = some v := hargs.1
                      obtain ⟨I, hI⟩ := hH.ll
                      obtain ⟨vr, us0, a1, a2, a3, ad, aa, a4, a5⟩ := hI p.1 row z hll hz
                      obtain ⟨u, hu1, hu2⟩ := aa r p.2 hal hlt'
                      rw [hv] at hu1
                      cases hu1
                      obtain ⟨u', hu3, e1, vs1, hown1, hvs1, hI1⟩ := a3.get p.2 l hl
                      rw [hu2] at hu3
                      cases hu3
                      have hclosed := closeAll_ok hH hp hargs.2 hzs
                      have hel := allEl_ok (w' := w) (Pr' := fun k => k < w.heap.size ∧ v.ownBlock ≠ some k) (ρ' := []) (cargs' := []) hall hclosed
                      refine yields_call ho hcs hreal ?_
                      rw [hle, List.append_nil]
                      refine (hcok.1 (two_flat hz) w e1 v us ⟨vs1, hown1, hvs1⟩ hel).mono ?_
                      rintro e w' ⟨ws, rfl, hkeep, ⟨vs2, hown2, hvs2⟩, hrv⟩
                      have hoth : ∀ k, k < w.heap.size → v.ownBlock ≠ some k → w'.heap[k]? = w.heap[k]? := fun k hk1 hk2 => hkeep.block k ⟨hk1, hk2⟩
                      have hve := cast_ok hl'
                      rw [hve] at hown2 hvs2
                      have hH2 := hH.setIn hI hll hz hvec a1 a2 a3 ad aa a4 a5 hu2 ⟨e1, vs2, hown2, hvs2, fun k hk => hk⟩ hoth hkeep.size
                      obtain ⟨hHe, h5⟩ := takeBack_quiet (w'' := w') (Pr := Pr) (ρ := ρ) (cargs := cargs) hq hrv.all htb
                      subst hHe
                      exact ⟨_, rfl, ρ, fun _ _ h => h, packed_ok h5, hH2, ⟨hkeep.os, hkeep.tape, hkeep.output, hkeep.size, fun k hk => hoth k (hp k hk) fun e => (a5 k (.inl (hI1 k e))).2.1 hk⟩⟩
                  · cases hk
                · cases hk
              · cases hk
          · cases h
        · cases h
    · cases h
  · split at h
    · rename_i row hll
      obtain ⟨rs, vec', hreal, hcok, hk⟩ := hT.M _ _ _ _ _ h
      cases hgo : vec'.k.isAl with
      | true =>
        rw [hgo] at hk
        simp only [cond_true] at hk
        cases hq : (noAl s.H && (zs.isEmpty && Nat.beq row.e (goneE vec'))) with
        | false => rw [hq] at hk; cases hk
        | true =>
          rw [hq] at hk
          rw [Bool.and_eq_true, Bool.and_eq_true] at hq
          have hre := Nat.eq_of_beq_eq_true hq.2.2
          simp only [cond_true] at hk
          split at hk
          · rename_i vs H' htb
            refine ⟨_, _, hk, ?_⟩
            intro a w Pr ρ cargs hp hH hop
            obtain ⟨cs, hcs, hcaps⟩ := hop.fv x (by rw [ho]; exact operands_call (.inl rfl)) _ hg
            have hcs0 : cs = [] := by cases cs with
              | nil => rfl
              | cons c cs => exact hcaps.elim
            subst hcs0
            have hargs : AllR (FVR w Pr ρ cargs) (.own r :: ys) (args.toList.map a.eval) := evAll_mem hxs fun y hy v hv => hop.fv y (by rw [ho]; exact operands_call (.inr hy)) v hv
            cases hle : args.toList.map a.eval with
            | nil => rw [hle] at hargs; exact hargs.elim
            | cons v us =>
              rw [hle] at hargs
              have hv : ρ[r]? = some v := hargs.1
              obtain ⟨z, hz⟩ := two_some (llAt_is2 hll).1
              have hcx := hcok.2 z hz
              rw [hgo] at hcx
              obtain ⟨_, hcx⟩ := hcx
              have hys : ys = [] := by
                cases ys with
                | nil => rfl
                | cons y ys' =>
                  unfold closeAll at hzs
                  split at hzs
                  · cases hzs
                    cases hq.2.1
                  · cases hzs
              subst hys
              have hus : us = [] := by
                cases us with
                | nil => rfl
                | cons _ _ => exact hargs.2.elim
              subst hus
              obtain ⟨I, hI⟩ := hH.ll
              obtain ⟨vr, us0, a1, a2, a3, ad, aa, a4, a5⟩ := hI r row z hll hz
              rw [hv] at a1
              cases a1
              refine yields_call ho hcs hreal ?_
              rw [hle, List.append_nil]
              refine (hcx w v (I r) ⟨us0, by rw [← hre]; exact a2, a3, ad, a4, fun g hg => (a5 g hg).1⟩).mono ?_
              rintro e w' ⟨ws, rfl, hkeep, hrv, hap⟩
              have hN : ∀ g, (w.heap.size ≤ g ∨ v.ownBlock = some g ∨ I r g) → w.heap.size ≤ g ∨ OB I ρ s.H r g := fun g hg => hg.imp id fun h => .inr ⟨row, v, hll, hv, h.symm⟩
              have hoth : ∀ g, g < w.heap.size → ¬ OB I ρ s.H r g → w'.heap[g]? = w.heap[g]? := fun g hg hob => hkeep.block g ⟨hg, fun e => hob (.inr ⟨row, v, hll, hv, .inr e⟩), fun e => hob (.inr ⟨row, v, hll, hv, .inl e⟩)⟩
              have hH2 := hH.gone hI hkeep.size hoth
              obtain ⟨ρ', h3, h4, h5⟩ := takeBackN_ok (N := fun g => w.heap.size ≤ g ∨ OB I ρ s.H r g) (fun g hg hpr => hg.elim (fun h => by have := hp g hpr; omega) fun h => (h.lt hH hI).2 hpr) rs ws vs (s.H.set r none) H' ρ (hrv.mono fun a b hab => by cases a <;> first | exact hab | (obtain ⟨vs, h1, h2, h3⟩ := hab; exact ⟨vs, h1, h2, fun g hg => hN g (h3 g hg)⟩)) hap htb hH2 (fun ρ' H' a b => LLR.gone hH hI hkeep.size hoth a b) ⟨fun r row h => ⟨h, rfl⟩, fun r p h => ⟨h, rfl⟩⟩ (fun r row v g h1 h2 h3 => .inr ⟨r, row, v, h1, h2, h3⟩) (by
                intro i r0 v0 g h1 h2 h3 h4 q row u hq hu
                obtain ⟨hnq, hq'⟩ := (show r ≠ q ∧ rowAt s.H q = some row by
                  rcases rowAt_set hq with h | ⟨_, h⟩
                  · exact h
                  · cases h)
                obtain ⟨u2, hu2, hr2⟩ := hH.row q row hq'
                rw [hu] at hu2
                cases hu2
                intro hg
                have hlt := hr2.lt hg
                obtain ⟨v2, hv2, hrr⟩ := hrv.get i r0 h1
                rw [h3] at hv2
                cases hv2
                cases r0 with
                | fresh e vec =>
                  obtain ⟨_, _, _, hnew⟩ := hrr
                  rcases hN g (hnew g h4) with h5 | h5
                  · omega
                  · exact hnq (h5.uniq hH hI (.inl ⟨row, _, hq', hu, hg⟩))
                | el e => cases h2
                | nil => cases h2
                | arg i => cases h2
                | new2 e v => cases h2
                | newv e i => cases h2) (by
                intro i y hy
                cases i with
                | zero => cases hy; exact ⟨v, rfl, hv⟩
                | succ i => simp at hy)
              exact ⟨_, rfl, ρ', h3, packed_ok h4, h5, ⟨hkeep.os, hkeep.tape, hkeep.output, hkeep.size, fun k hk => hoth k (hp k hk) fun hob => (hob.lt hH hI).2 hk⟩⟩
          · cases hk
      | false =>
      rw [hgo] at hk
      simp only [cond_false] at hk
      cases hq : (quietRV rs && noAl s.H) with
      | false => rw [hq] at hk; cases hk
      | true =>
        rw [hq] at hk
        rw [Bool.and_eq_true] at hq
        simp only [cond_true] at hk
        split at hk
        · rename_i vs H' htb
          refine ⟨_, _, hk, ?_⟩
          intro a w Pr ρ cargs hp hH hop
          obtain ⟨cs, hcs, hcaps⟩ := hop.fv x (by rw [ho]; exact operands_call (.inl rfl)) _ hg
          have hcs0 : cs = [] := by cases cs with
            | nil => rfl
            | cons c cs => exact hcaps.elim
          subst hcs0
          have hargs : AllR (FVR w Pr ρ cargs) (.own r :: ys) (args.toList.map a.eval) := evAll_mem hxs fun y hy v hv => hop.fv y (by rw [ho]; exact operands_call (.inr hy)) v hv
          cases hle : args.toList.map a.eval with
          | nil => rw [hle] at hargs; exact hargs.elim
          | cons v us =>
            rw [hle] at hargs
            have hv : ρ[r]? = some v := hargs.1
            obtain ⟨z, hz⟩ := two_some (llAt_is2 hll).1
            have hcm0 := hcok.2 z hz
            rw [hgo] at hcm0
            obtain ⟨z', hz', hcm⟩ := hcm0
            obtain ⟨I, hI⟩ := hH.ll
            obtain ⟨vr, us0, a1, a2, a3, ad, aa, a4, a5⟩ := hI r row z hll hz
            rw [hv] at a1
            cases a1
            have hclosed := closeAll_ok hH hp hargs.2 hzs
            have hel := allEl_ok (w' := w) (Pr' := fun k => k < w.heap.size ∧ v.ownBlock ≠ some k ∧ ¬ I r k) (ρ' := []) (cargs' := []) hall hclosed
            refine yields_call ho hcs hreal ?_
            rw [hle, List.append_nil]
            refine (hcm w row.e v (I r) us ⟨us0, a2, a3, ad, a4, fun g hg => (a5 g hg).1⟩ hel).mono ?_
            rintro e w' ⟨ws, rfl, hkeep, ⟨I', hnew, hsub⟩, hrv⟩
            have hoth : ∀ k, k < w.heap.size → v.ownBlock ≠ some k → ¬ I r k → w'.heap[k]? = w.heap[k]? := fun k hk1 hk2 hk3 => hkeep.block k ⟨hk1, hk2, hk3⟩
            have hH2 := hH.set2 hp hI hll hz' hv hq.2 a5 hnew hsub hoth hkeep.size
            obtain ⟨hHe, h5⟩ := takeBack_quiet (w'' := w') (Pr := Pr) (ρ := ρ) (cargs := cargs) hq.1 hrv.all htb
            subst hHe
            exact ⟨_, rfl, ρ, fun _ _ h => h, packed_ok h5, hH2, ⟨hkeep.os, hkeep.tape, hkeep.output, hkeep.size, fun k hk => hoth k (hp k hk) (fun e => (a5 k (.inr e)).2.1 hk) fun e => (a5 k (.inl e)).2.1 hk⟩⟩
        · cases hk
    · cases h
theorem dataPs_ok {w : World} {Pr : Nat → Prop} {ρ : List Value} {H : Hp} {r : Nat} {row : Row} {vr : Value} (hH : HR w Pr ρ H) (hp : ∀ k, Pr k → k < w.heap.size) (hrow : rowAt H r = some row) (hr : ρ[r]? = some vr) (hnp : ∀ g, vr.ownBlock = some g → ¬ Pr g) :
    ∀ {ps qs : List PT} {vs : List Value}, AllR (PtR w Pr ρ) ps vs → dataPs (H.set r none) ps = some qs → AllR (PtR w (fun k => k < w.heap.size ∧ vr.ownBlock ≠ some k) []) qs vs
  | [], qs, [], _, h => by simp [dataPs] at h; subst h; trivial
  | p :: ps, qs, v :: vs, hv, h => by
    unfold dataPs at h
    split at h
    · rename_i vec qs' hb hqs
      cases hs : Nat.beq p.sz vec.k.sz with
      | false => rw [hs] at h; cases h
      | true =>
        rw [hs] at h
        cases h
        refine ⟨?_, dataPs_ok hH hp hrow hr hnp hv.2 hqs⟩
        have hpt := hv.1
        obtain ⟨b, sz, i, j⟩ := p
        cases b with
        | v vec' =>
          cases hb
          obtain ⟨a, h1, h2, h3, h4⟩ := hpt
          exact ⟨a, ⟨hp _ h1, fun e => hnp _ e h1⟩, h2, h3, h4⟩
        | r r' =>
          obtain ⟨v1, g, h1, h2, h3⟩ := hpt
          unfold baseVec at hb
          dsimp only at hb
          split at hb
          · rename_i row' hrow'
            cases hb
            rcases rowAt_set hrow' with ⟨hne, hold⟩ | ⟨_, hx⟩
            · obtain ⟨v2, hv2, xs2, hown, hxs2, _⟩ := hH.row r' row' hold
              rw [h1] at hv2
              cases hv2
              refine ⟨⟨g, 0, none⟩, ⟨(hown.lt g h2).2, fun e => hH.apart r r' row row' vr v1 g hne hrow hold hr h1 e h2⟩, fun q s hq => ?_, Nat.eq_of_beq_eq_true hs, ?_⟩
              · obtain ⟨u, hu, hsu⟩ := hxs2.get q s hq
                exact ⟨u, hown.cells h2 q u hu, hsu⟩
              · rw [h3]; simp only [Addr.add]; split <;> simp_all
            · cases hx
          · cases hb
        | w j' => cases hb
        | s kd xss => cases hb
    · cases h
  | [], _, _ :: _, hv, _ => hv.elim
  | _ :: _, _, [], hv, _ => hv.elim
theorem does_cut (hT : TOK P T) {o : Oper} {s : St} {k : AV → Hp → R} {out : Out} {x : Operand} {args : Array Operand} {ts : Array TypeId} {g r : Nat} {row : Row} {ys : List FV}
    (ho : o.op = .call { callee := .value x, args := args, argTypes := ts }) (hg : evO s x = some (.fn g [])) (hxs : evAll s args.toList = some (.own r :: ys)) (hrow : rowAt s.H r = some row)
    (h : cutK T s.H g r row ys (fun v H => k (.fv v) H) = some out) : ∃ av H', k av H' = some out ∧ Does P o s av H' := by
  unfold cutK at h
  split at h
  case h_2 => cases h
  rename_i f caps
  split at h
  · rename_i qs hqs
    obtain ⟨vec', hreal, hcok, hk⟩ := hT.D _ _ _ _ _ h
    cases hkk : (vec'.k.is2 || vec'.k.isAl) with
    | true => rw [hkk] at hk; cases hk
    | false =>
      rw [hkk] at hk
      simp only [cond_false] at hk
      refine ⟨_, _, hk, ?_⟩
      intro a w Pr ρ cargs hp hH hop
      obtain ⟨cs, hcs, hcaps⟩ := hop.fv x (by rw [ho]; exact operands_call (.inl rfl)) _ hg
      have hcs0 : cs = [] := by cases cs with
        | nil => rfl
        | cons c cs => exact hcaps.elim
      subst hcs0
      have hargs : AllR (FVR w Pr ρ cargs) [.own r, .fn f caps] (args.toList.map a.eval) := evAll_mem hxs fun y hy v hv => hop.fv y (by rw [ho]; exact operands_call (.inr hy)) v hv
      cases hl : args.toList.map a.eval with
      | nil => rw [hl] at hargs; exact hargs.elim
      | cons v us =>
        rw [hl] at hargs
        have hv : ρ[r]? = some v := hargs.1
        obtain ⟨v2, hv2, xs2, hown, hxs2, hnp⟩ := hH.row r row hrow
        rw [hv] at hv2
        cases hv2
        have hclosed : AllR (FVR w (fun k => k < w.heap.size ∧ v.ownBlock ≠ some k) [] []) [.fn f qs] us := by
          match us, hargs.2 with
          | [u], ha =>
            obtain ⟨cs, hu, hcs2⟩ := ha.1
            exact ⟨⟨cs, hu, dataPs_ok hH hp hrow hv hnp hcs2 hqs⟩, trivial⟩
        refine yields_call ho hcs hreal ?_
        rw [hl, List.append_nil]
        refine (hcok w row.e v us ⟨xs2, hown, hxs2⟩ hclosed).mono ?_
        rintro en w' ⟨u, rfl, hkeep, hnew, h5⟩
        have hoth : ∀ k, k < w.heap.size → v.ownBlock ≠ some k → w'.heap[k]? = w.heap[k]? := fun k hk1 hk2 => hkeep.block k ⟨hk1, hk2⟩
        exact ⟨_, rfl, ρ ++ [u], old_push _, by show (ρ ++ [u])[s.H.length]? = some u; rw [← hH.len]; simp, hH.reborn hp hrow hv hkeep.size hoth hnew hkk h5,
          ⟨hkeep.os, hkeep.tape, hkeep.output, hkeep.size, fun k hk => hoth k (hp k hk) fun e => hnp k e hk⟩⟩
  · cases h
theorem does_call (hT : TOK P T) {o : Oper} {s : St} {k : AV → Hp → R} {out : Out} {x : Operand} {args : Array Operand} {ts : Array TypeId}
    (ho : o.op = .call { callee := .value x, args := args, argTypes := ts })
    (h : opK T false (.call { callee := .value x, args := args, argTypes := ts }) s k = some out) : ∃ av H', k av H' = some out ∧ Does P o s av H' := by
  unfold opK at h
  dsimp only at h
  split at h
  · rename_i g caps xs hg hxs
    cases hm : T.mutf g with
    | true =>
      rw [hm] at h
      simp only [cond_true, cond_false] at h
      split at h
      · rename_i r ys
        split at h
        · rename_i row zs hrow hzs
          cases hall : allEl zs with
          | false =>
            rw [hall] at h
            simp only [cond_false] at h
            exact does_cut hT ho hg hxs hrow h
          | true =>
            rw [hall] at h
            simp only [cond_true] at h
            obtain ⟨rs, vec', hreal, hcok, hk⟩ := hT.M _ _ _ _ _ h
            cases hq : (quietRV rs && decide (vec'.k = row.v.k)) with
            | false => rw [hq] at hk; cases hk
            | true =>
              rw [hq] at hk
              rw [Bool.and_eq_true, decide_eq_true_eq] at hq
              simp only [cond_true] at hk
              split at hk
              · rename_i vs H' htb
                refine ⟨_, _, hk, ?_⟩
                intro a w Pr ρ cargs hp hH hop
                obtain ⟨cs, hcs, hcaps⟩ := hop.fv x (by rw [ho]; exact operands_call (.inl rfl)) _ hg
                have hcs0 : cs = [] := by cases cs with
                  | nil => rfl
                  | cons c cs => exact hcaps.elim
                subst hcs0
                have hargs : AllR (FVR w Pr ρ cargs) (.own r :: ys) (args.toList.map a.eval) := evAll_mem hxs fun y hy v hv => hop.fv y (by rw [ho]; exact operands_call (.inr hy)) v hv
                cases hl : args.toList.map a.eval with
                | nil => rw [hl] at hargs; exact hargs.elim
                | cons v us =>
                  rw [hl] at hargs
                  have hv : ρ[r]? = some v := hargs.1
                  obtain ⟨v2, hv2, xs2, hown, hxs2, hnp⟩ := hH.row r row hrow
                  rw [hv] at hv2
                  cases hv2
                  have hclosed := closeAll_ok hH hp hargs.2 hzs
                  have hel := allEl_ok (w' := w) (Pr' := fun k => k < w.heap.size ∧ v.ownBlock ≠ some k) (ρ' := []) (cargs' := []) hall hclosed
                  refine yields_call ho hcs hreal ?_
                  rw [hl, List.append_nil]
                  refine (hcok.1 (rowAt_is2 hrow).1 w row.e v us ⟨xs2, hown, hxs2⟩ hel).mono ?_
                  rintro e w' ⟨ws, rfl, hkeep, hrow', hrv⟩
                  have hoth : ∀ k, k < w.heap.size → v.ownBlock ≠ some k → w'.heap[k]? = w.heap[k]? := fun k hk1 hk2 => hkeep.block k ⟨hk1, hk2⟩
                  have hH2 : HR w' Pr ρ (s.H.set r (some ⟨row.e, vec'⟩)) := by
                    refine ⟨by rw [List.length_set]; exact hH.len, fun r' row' hr' => ?_, fun r1 r2 row1 row2 v1 v2 g' hne h1 h2 h3 h4 h5 => ?_, hH.ll.set hkeep.size (fun _ e => by cases e; rw [hq.2]; exact (rowAt_no hrow).1) (fun _ _ => ⟨row, hrow⟩) fun g hg hg' => hoth g hg (hg' r row v hrow hv)⟩
                    · rcases rowAt_set hr' with ⟨hne, hold⟩ | ⟨rfl, hnew⟩
                      · obtain ⟨u, hu, hr2⟩ := hH.row r' row' hold
                        exact ⟨u, hu, hr2.keep fun g' hg' => hoth g' (hr2.lt hg') fun e => hH.apart r r' row row' v u g' hne hrow hold hv hu e hg'⟩
                      · cases hnew
                        obtain ⟨vs', h1, h2⟩ := hrow'
                        exact ⟨v, hv, vs', h1, h2, hnp⟩
                    · have key : ∀ {r' : Nat} {row' : Row}, rowAt (List.set s.H r (some ⟨row.e, vec'⟩)) r' = some row' → ∃ row'', rowAt s.H r' = some row'' := by
                        intro r' row' h
                        rcases rowAt_set h with ⟨_, h⟩ | ⟨rfl, _⟩
                        · exact ⟨_, h⟩
                        · exact ⟨_, hrow⟩
                      obtain ⟨row1', h1'⟩ := key h1
                      obtain ⟨row2', h2'⟩ := key h2
                      exact hH.apart r1 r2 row1' row2' v1 v2 g' hne h1' h2' h3 h4 h5
                  obtain ⟨hHe, h5⟩ := takeBack_quiet (w'' := w') (Pr := Pr) (ρ := ρ) (cargs := cargs) hq.1 hrv.all htb
                  subst hHe
                  exact ⟨_, rfl, ρ, fun _ _ h => h, packed_ok h5, hH2, ⟨hkeep.os, hkeep.tape, hkeep.output, hkeep.size, fun k hk => hoth k (hp k hk) fun e => hnp k e hk⟩⟩
              · cases hk
        · rename_i zs hrow hzs
          cases hall : allEl zs with
          | false => rw [hall] at h; cases h
          | true =>
            rw [hall] at h
            simp only [cond_true] at h
            exact does_callLL hT ho hg hxs hrow hzs hall h
        · cases h
      · cases h
    | false =>
      rw [hm] at h
      simp only [cond_false] at h
      split at h
      · rename_i zs hzs
        obtain ⟨rs, hcok, hk⟩ := hT.S _ _ _ _ h
        simp only [Bool.false_and, cond_false] at hk
        split at hk
        · rename_i vs H' htb
          refine ⟨_, _, hk, ?_⟩
          intro a w Pr ρ cargs hp hH hop
          obtain ⟨cs, hcs, hcaps⟩ := hop.fv x (by rw [ho]; exact operands_call (.inl rfl)) _ hg
          have hargs : AllR (FVR w Pr ρ cargs) xs (args.toList.map a.eval) := evAll_mem hxs fun y hy v hv => hop.fv y (by rw [ho]; exact operands_call (.inr hy)) v hv
          have hall := closeAll_ok hH hp (hargs.append (caps_ok hcaps)) hzs
          refine (yields_callOK ho hcs hcok hall).mono ?_
          rintro e w' ⟨us, rfl, hsame, hrv⟩
          have hH' := hH.keep hsame.block
          obtain ⟨ρ', h3, h4, h5⟩ := takeBack_ok hp rs us vs s.H H' ρ hrv.all hrv.apart htb hH' (fun ρ' H' a b => hH.ll.step hsame.size (fun g hg _ => hsame.block g hg) a.1 a.2 b) ⟨fun r row h => ⟨h, rfl⟩, fun r p h => ⟨h, rfl⟩⟩ (fun r row v g h1 h2 h3 => .inr ⟨r, row, v, h1, h2, h3⟩) (by
            intro i r v g h1 h2 h3 h4 q row u hq hu
            obtain ⟨u2, hu2, hr2⟩ := hH.row q row hq
            rw [hu] at hu2
            cases hu2
            intro hg
            have hlt := hr2.lt hg
            obtain ⟨v2, hv2, hrr⟩ := hrv.all.get i r h1
            rw [h3] at hv2
            cases hv2
            cases r with
            | fresh e vec =>
              obtain ⟨_, _, _, hnew⟩ := hrr
              have := hnew g h4
              omega
            | el e => cases h2
            | nil => cases h2
            | arg i => cases h2
            | new2 e v => cases h2
            | newv e i => cases h2) (by
            intro i y hy
            obtain ⟨v, hv, hr⟩ := hargs.get i y hy
            refine ⟨v, ?_, hr.same hsame hp⟩
            rw [List.getElem?_append_left]
            · exact hv
            · rcases Nat.lt_or_ge i (args.toList.map a.eval).length with h' | h'
              · exact h'
              · rw [List.getElem?_eq_none h'] at hv; cases hv)
          exact ⟨ρ', h3, packed_ok h4, h5, Keep.of_below hsame hp⟩
        · split at hk
          · rename_i e2 v2 _
            refine ⟨_, _, hk, ?_⟩
            intro a w Pr ρ cargs hp hH hop
            obtain ⟨cs, hcs, hcaps⟩ := hop.fv x (by rw [ho]; exact operands_call (.inl rfl)) _ hg
            have hargs : AllR (FVR w Pr ρ cargs) xs (args.toList.map a.eval) := evAll_mem hxs fun y hy v hv => hop.fv y (by rw [ho]; exact operands_call (.inr hy)) v hv
            have hall := closeAll_ok hH hp (hargs.append (caps_ok hcaps)) hzs
            refine (yields_callOK ho hcs hcok hall).mono ?_
            rintro e w' ⟨us, rfl, hsame, hrv⟩
            match us, hrv.all with
            | [u], hall2 =>
              obtain ⟨z, us2, I0, hz, hown, hin, hdi, hd, hnew⟩ := hall2.1
              exact ⟨ρ ++ [u], old_push _, by show (ρ ++ [u])[s.H.length]? = some u; rw [← hH.len]; simp, hH.push2 hp hsame.block hz hown hin hdi hd hnew, Keep.of_below hsame hp⟩
          · cases hk
      · cases h
  · cases h
theorem opK_does (hT : TOK P T) {o : Oper} {s : St} {k : AV → Hp → R} {out : Out} (h : opK T false o.op s k = some out) : ∃ av H', k av H' = some out ∧ Does P o s av H' := by
  have quiet : opK T true o.op s k = opK T false o.op s k → ∃ av H', k av H' = some out ∧ Does P o s av H' := fun e => by
    obtain ⟨av, h1, h2⟩ := opK_quiet hT (e.trans h)
    exact ⟨av, s.H, h1, h2.does⟩
  cases hop : o.op with
  | move x => exact quiet (by rw [hop]; rfl)
  | assign x => exact quiet (by rw [hop]; rfl)
  | pick c x y => exact quiet (by rw [hop]; rfl)
  | binOp b t x y t' => exact quiet (by rw [hop]; rfl)
  | unOp b t x => exact quiet (by rw [hop]; rfl)
  | convert c d x => exact quiet (by rw [hop]; rfl)
  | nilCheck x => exact quiet (by rw [hop]; rfl)
  | load t x =>
    by_cases hc : ∃ r i, evO s x = some (.pl r i)
    · obtain ⟨r, i, hc⟩ := hc
      rw [hop] at h
      exact does_loadPl hT hop hc h
    · refine quiet ?_
      rw [hop]
      unfold opK
      dsimp only
      split
      · rfl
      · rfl
      · rfl
      · rename_i r i hr
        exact absurd ⟨r, i, hr⟩ hc
      · rfl
  | fieldAddr t x f => exact quiet (by rw [hop]; rfl)
  | indexAddr t x i => exact quiet (by rw [hop]; rfl)
  | extract x i => exact quiet (by rw [hop]; rfl)
  | field t x f => exact quiet (by rw [hop]; rfl)
  | slice t x lo hi mx => exact quiet (by rw [hop]; cases mx <;> rfl)
  | makeFunc fn first caps => exact quiet (by rw [hop]; rfl)
  | build t ps => exact quiet (by rw [hop]; rfl)
  | store t x y => rw [hop] at h; exact does_store hT hop h
  | box t x => rw [hop] at h; exact does_boxed hop h
  | alloc t => rw [hop] at h; exact does_alloc hT hop h
  | buildSlice t n ps => rw [hop] at h; exact does_buildSlice hT hop h
  | makeSlice t l c => rw [hop] at h; exact does_makeSlice hT hop h
  | call c =>
    obtain ⟨callee, args, ts⟩ := c
    rw [hop] at h
    cases callee with
    | value x => exact does_call hT hop h
    | invoke r m => unfold opK at h; cases h
    | builtin b =>
      by_cases hb : b = .append
      · subst hb
        unfold opK at h
        dsimp only at h
        split at h
        · cases h
        · rename_i xs hxs
          split at h
          all_goals first | (cases h; done) | contradiction | skip
          · rename_i d x _ _
            simp only [cond_false] at h
            split at h
            · rename_i t t' hts
              cases htt : Nat.beq t t' with
              | false => rw [htt] at h; cases h
              | true =>
                rw [htt] at h
                have := Nat.eq_of_beq_eq_true htt
                subst this
                exact does_append hT hop hts hxs h
            · cases h
      · by_cases hb2 : b = .copy
        · subst hb2
          unfold opK at h
          dsimp only at h
          split at h
          · cases h
          · rename_i xs hxs
            split at h
            all_goals first | (cases h; done) | contradiction | skip
            · rename_i d x _ _
              simp only [cond_false] at h
              split at h
              · rename_i t tl hts
                exact does_copy hT hop hts hxs h
              · cases h
        · obtain ⟨av, h1, h2⟩ := quiet_builtin hT hop false (.inr ⟨hb, hb2⟩) h
          exact ⟨av, s.H, h1, h2.does⟩
  | _ => rw [hop] at h; unfold opK at h; cases h
end
end Go.Sm
namespace Go.Sm
open Go Go.RowKit
section
variable {P : Program} {T : TT} {Pr : Nat → Prop} {w0 : World} {cargs : List Value} {nt : Nat}
theorem lk_cons (d : Nat) (v : AV) (l : List (Nat × AV)) (t : Nat) : lk ((d, v) :: l) t = if d = t then some v else lk l t := by
  show (bif Nat.beq d t then some v else lk l t) = _
  cases h : Nat.beq d t with
  | true =>
    have := Nat.eq_of_beq_eq_true h
    simp [this]
  | false =>
    have : d ≠ t := fun e => by subst e; rw [Nat.beq_refl] at h; cases h
    simp [this]
inductive Guard (all : List Oper) (g : Option (Nat × Bool)) (s : St) : Bool → St → Prop
  | always : g = none → Guard all g s true s
  | test (j : Nat) (want b : Bool) (o : Oper) (d : Nat) : g = some (j, want) → all[j]? = some o → o.dst = some d → lk s.sl d = some (.fv (.el (.sc (.bo b)))) → Guard all g s (b == want) ⟨(d, .fv (.el (.sc (.bo b)))) :: s.sl, s.H⟩
  | skip (j : Nat) (want : Bool) (o : Oper) (d : Nat) : g = some (j, want) → all[j]? = some o → o.dst = some d → lk s.sl d = some .un → Guard all g s false s
theorem guardK_ok {all : List Oper} {g : Option (Nat × Bool)} {s : St} {yes no : St → R} {out : Out} (h : guardK all g s yes no = some out) :
    ∃ b s1, Guard all g s b s1 ∧ (if b then yes s1 else no s1) = some out := by
  unfold guardK at h
  split at h
  · exact ⟨true, s, .always rfl, h⟩
  · rename_i j want
    split at h
    · cases h
    · rename_i o ho
      split at h
      · cases h
      · rename_i d hd
        split at h
        · rename_i b hb
          refine ⟨b == want, _, .test j want b o d rfl ho hd hb, ?_⟩
          cases b <;> cases want <;> exact h
        · rename_i hb
          exact ⟨false, s, .skip j want o d rfl ho hd hb, h⟩
        · cases h
theorem Guard.same {all : List Oper} {g : Option (Nat × Bool)} {s s1 : St} {b : Bool} (h : Guard all g s b s1) : (∀ t, lk s1.sl t = lk s.sl t) ∧ s1.H = s.H := by
  cases h with
  | always _ => exact ⟨fun _ => rfl, rfl⟩
  | test j want b o d h1 h2 h3 h4 =>
    refine ⟨fun t => ?_, rfl⟩
    rw [lk_cons]
    split
    · rename_i e; subst e; exact h4.symm
    · rfl
  | skip j want o d h1 h2 h3 h4 => exact ⟨fun _ => rfl, rfl⟩
theorem getD_lt {a : Array Value} {d : Nat} {v : Value} (h : a.getD d undef = v) (hv : v ≠ undef) : a[d]? = some v := by
  rcases Nat.lt_or_ge d a.size with hl | hl
  · simp [Array.getD, hl] at h ⊢; exact h
  · simp [Array.getD, Nat.not_lt.2 hl] at h; exact absurd h.symm hv
theorem Guard.wanted {ops : Array Oper} {o : Oper} {s s1 : St} {b : Bool} (h : Guard ops.toList o.guard s b s1) {a : Act} {w : World} {ρ : List Value}
    (hs : ∀ d, optIn (some d) (o.looksAt ops) = true → ∀ v, lk s.sl d = some v → AVR w Pr ρ cargs v (a.tmps.getD d undef)) : Region.wanted o (yielded ops a.tmps) = b := by
  have look : ∀ (j : Nat) (want : Bool) (o' : Oper) (d : Nat), o.guard = some (j, want) → ops.toList[j]? = some o' → o'.dst = some d → optIn (some d) (o.looksAt ops) = true ∧ ((ops[j]?).bind (·.dst)) = some d := by
    intro j want o' d h1 h2 h3
    have h4 : ops[j]? = some o' := by rw [← h2]; simp
    have h5 : ((ops[j]?).bind (·.dst)) = some d := by rw [h4]; exact h3
    refine ⟨?_, h5⟩
    have hm : d ∈ o.looksAt ops := by
      unfold Oper.looksAt
      rw [h1]
      simp [h5]
    have key : ∀ l : List Nat, d ∈ l → memN d l = true := by
      intro l
      induction l with
      | nil => intro h; cases h
      | cons x l ih =>
        intro h
        unfold memN
        cases h with
        | head => rw [Nat.beq_refl]; rfl
        | tail _ h => rw [ih h, Bool.or_true]
    exact key _ hm
  unfold Region.wanted
  cases h with
  | always h => rw [h]
  | test j want b o' d h1 h2 h3 h4 =>
    obtain ⟨h5, h6⟩ := look j want o' d h1 h2 h3
    have hv : a.tmps.getD d undef = .bool b := hs d h5 _ h4
    have hv2 := getD_lt hv (by unfold undef; intro e; cases e)
    rw [h1]
    dsimp only
    unfold yielded
    rw [h6]
    simp [hv2]
  | skip j want o' d h1 h2 h3 h4 =>
    obtain ⟨h5, h6⟩ := look j want o' d h1 h2 h3
    have hv : a.tmps.getD d undef = undef := hs d h5 _ h4
    rw [h1]
    dsimp only
    unfold yielded
    rw [h6]
    simp only [Option.bind_some]
    rcases Nat.lt_or_ge d a.tmps.size with hl | hl
    · have : a.tmps[d]? = some undef := by simp [Array.getD, hl] at hv ⊢; exact hv
      rw [this]
      rfl
    · rw [Array.getElem?_eq_none hl]
      rfl
theorem getD_set (a : Array Value) (d t : Nat) (v : Value) (h : d < a.size) : (a.setIfInBounds d v).getD t undef = if d = t then v else a.getD t undef := by
  simp only [Array.getD_eq_getD_getElem?, Array.getElem?_setIfInBounds]
  by_cases e : d = t
  · subst e
    simp [h]
  · simp [e]
theorem SR.put {s : St} {a : Act} {w w' : World} {ρ ρ' : List Value} {dst : Option Nat} {av : AV} {H' : Hp} {v : Value} (h : SR Pr w0 cargs nt s a w ρ) (hd : dstOk nt dst = true)
    (hr : ∀ (r : Nat) (u : Value), ρ[r]? = some u → ρ'[r]? = some u) (hv : AVR w' Pr ρ' cargs av v) (hH : HR w' Pr ρ' H') (hk : Keep Pr w w') : SR Pr w0 cargs nt (putS s dst av H') (a.put dst v) w' ρ' := by
  have hold : ∀ t u, lk s.sl t = some u → AVR w' Pr ρ' cargs u (a.tmps.getD t undef) := fun t u hu => (h.slots t u hu).keep hk.block hr
  cases dst with
  | none => exact ⟨h.size, h.defers, hold, hH, h.keep.trans hk⟩
  | some d =>
    have hd' : d < a.tmps.size := by rw [h.size]; exact of_decide_eq_true hd
    refine ⟨by simp [Act.put, h.size], h.defers, fun t u hu => ?_, hH, h.keep.trans hk⟩
    simp only [putS] at hu
    rw [lk_cons] at hu
    simp only [Act.put]
    rw [getD_set _ _ _ _ hd']
    split at hu
    · rename_i e
      cases hu
      rw [if_pos e]
      exact hv
    · rename_i e
      rw [if_neg e]
      exact hold t u hu
theorem SR.lt {s : St} {a : Act} {w : World} {ρ : List Value} (h : SR Pr w0 cargs nt s a w ρ) (hp : ∀ k, Pr k → k < w0.heap.size) : ∀ k, Pr k → k < w.heap.size := fun k hk => Nat.lt_of_lt_of_le (hp k hk) h.keep.size
theorem SR.guard {all : List Oper} {g : Option (Nat × Bool)} {s s1 : St} {b : Bool} {a : Act} {w : World} {ρ : List Value} (h : SR Pr w0 cargs nt s a w ρ) (hg : Guard all g s b s1) : SR Pr w0 cargs nt s1 a w ρ := by
  obtain ⟨h1, h2⟩ := hg.same
  exact ⟨h.size, h.defers, fun t v hv => h.slots t v (by rw [← h1 t]; exact hv), by rw [h2]; exact h.heap, h.keep⟩
theorem opsK_ok (hT : TOK P T) (nf : Nat) (hp : ∀ k, Pr k → k < w0.heap.size) {ops : Array Oper} {Q : Exit → Act → World → Prop} {out : Out} {k : St → R} : ∀ (os : List Oper) (s : St) (a : Act) (w : World) (ρ : List Value),
    opsK T false nt ops.toList os s k = some out → SR Pr w0 cargs nt s a w ρ → (∀ s' a' w' ρ', k s' = some out → SR Pr w0 cargs nt s' a' w' ρ' → Ext nf ρ ρ' → Q .normal a' w') → wpList P ops Q os a w
  | [], s, a, w, ρ, h, hs, hQ => hQ s a w ρ h hs (Ext.refl _ _)
  | o :: os, s, a, w, ρ, h, hs, hQ => by
    unfold opsK at h
    cases hd : dstOk nt o.dst with
    | false => rw [hd] at h; cases h
    | true =>
      rw [hd] at h
      simp only [cond_true] at h
      obtain ⟨b, s1, hg, h1⟩ := guardK_ok h
      have hw : Region.wanted o (yielded ops a.tmps) = b := hg.wanted (w := w) (Pr := Pr) (ρ := ρ) (cargs := cargs) fun d _ v hv => hs.slots d v hv
      have hs1 := hs.guard hg
      unfold wpList
      rw [hw]
      cases b with
      | false =>
        simp only [Bool.false_eq_true, if_false] at h1 ⊢
        refine opsK_ok hT nf hp os _ _ w ρ h1 (hs1.put hd (fun _ _ h => h) rfl hs1.heap (Keep.refl _ _)) hQ
      | true =>
        simp only [if_true] at h1 ⊢
        obtain ⟨av, H', hk, hdoes⟩ := opK_does hT h1
        refine .inl ((hdoes a w Pr ρ cargs (hs.lt hp) hs1.heap (Opd.of_slots fun t _ v hv => hs1.slots t v hv)).wp ?_)
        rintro v w' ⟨ρ', hr, hv, hH, hkeep⟩
        exact opsK_ok hT nf hp os _ _ w' ρ' hk (hs1.put hd hr hv hH hkeep) fun s2 a2 w2 ρ2 h2 hs2 he => hQ s2 a2 w2 ρ2 h2 hs2 fun r u h3 h4 => he r u h3 (hr r u h4)
theorem memN_iff {n : Nat} : ∀ {l : List Nat}, memN n l = true ↔ n ∈ l
  | [] => by simp [memN]
  | m :: l => by
    unfold memN
    rw [Bool.or_eq_true, memN_iff (l := l), List.mem_cons]
    constructor
    · rintro (h | h)
      · exact .inl (Nat.eq_of_beq_eq_true h)
      · exact .inr h
    · rintro (rfl | h)
      · exact .inl (Nat.beq_refl _)
      · exact .inr h
theorem once_mem {n : Nat} : ∀ {l : List Nat}, n ∈ once l ↔ n ∈ l
  | [] => by simp [once]
  | m :: l => by
    unfold once
    cases h : memN m l with
    | true =>
      rw [cond_true, once_mem (l := l), List.mem_cons]
      constructor
      · exact .inr
      · rintro (rfl | h2)
        · exact memN_iff.1 h
        · exact h2
    | false =>
      rw [cond_false, List.mem_cons, List.mem_cons, once_mem (l := l)]
theorem once_nodup : ∀ (l : List Nat), (once l).Nodup
  | [] => by simp [once]
  | m :: l => by
    unfold once
    cases h : memN m l with
    | true => exact once_nodup l
    | false =>
      rw [cond_false, List.nodup_cons]
      refine ⟨fun hm => ?_, once_nodup l⟩
      rw [once_mem, ← memN_iff, h] at hm
      cases hm
theorem place_get {n : Nat} : ∀ {l : List Nat}, n ∈ l → l[place n l]? = some n
  | [], h => by cases h
  | m :: l, h => by
    unfold place
    cases hb : Nat.beq n m with
    | true => have := Nat.eq_of_beq_eq_true hb; subst this; rfl
    | false =>
      have hne : n ≠ m := fun e => by subst e; rw [Nat.beq_refl] at hb; cases hb
      rw [cond_false]
      have : n ∈ l := by
        cases h with
        | head => exact absurd rfl hne
        | tail _ h => exact h
      simpa using place_get this
theorem keep_lk {l : List (Nat × AV)} : ∀ {ts : List Nat} {l' : List (Nat × AV)}, keepSlots l ts = some l' → ∀ t v, lk l' t = some v → lk l t = some v
  | [], l', h, t, v, hv => by simp [keepSlots] at h; subst h; cases hv
  | t' :: ts, l', h, t, v, hv => by
    unfold keepSlots at h
    split at h
    · rename_i u r hu hr
      cases h
      rw [lk_cons] at hv
      split at hv
      · rename_i e; subst e; cases hv; exact hu
      · exact keep_lk hr t v hv
    · cases h
theorem lk_map (f : AV → AV) : ∀ (l : List (Nat × AV)) (t : Nat), lk (l.map fun x => (x.1, f x.2)) t = (lk l t).map f
  | [], t => rfl
  | (d, v) :: l, t => by
    rw [List.map_cons, lk_cons, lk_cons, lk_map f l t]
    split <;> rfl
theorem lk_mem : ∀ {l : List (Nat × AV)} {t : Nat} {v : AV}, lk l t = some v → ∃ d, (d, v) ∈ l
  | [], t, v, h => by cases h
  | (d, u) :: l, t, v, h => by
    rw [lk_cons] at h
    split at h
    · cases h; exact ⟨d, by simp⟩
    · obtain ⟨d', hd⟩ := lk_mem h
      exact ⟨d', List.mem_cons_of_mem _ hd⟩
section
variable {w : World} {ρ : List Value} {ids : List Nat}
theorem ren_get {r : Nat} {v : Value} (hr : r ∈ ids) (hv : ρ[r]? = some v) : (ids.map fun r => ρ.getD r undef)[place r ids]? = some v := by
  rw [List.getElem?_map, place_get hr]
  simp [List.getD, hv]
theorem PtR.ren {p : PT} {v : Value} (hm : ∀ r ∈ refsP p, r ∈ ids) (h : PtR w Pr ρ p v) : PtR w Pr (ids.map fun r => ρ.getD r undef) (renP ids p) v := by
  obtain ⟨b, sz, i, j⟩ := p
  cases b with
  | v vec => exact h
  | r r =>
    obtain ⟨vr, g, h1, h2, h3⟩ := h
    exact ⟨vr, g, ren_get (hm r (by simp [refsP])) h1, h2, h3⟩
  | w j =>
    obtain ⟨a, u, h1, h2, h3⟩ := h
    exact ⟨a, u, h1, ren_get (hm j (by simp [refsP])) h2, h3⟩
  | s kd xss => exact h
theorem AllR.map_left {α α' β : Type} {R : α → β → Prop} {R' : α' → β → Prop} (f : α → α') : ∀ {as : List α} {bs : List β}, (∀ a ∈ as, ∀ b, R a b → R' (f a) b) → AllR R as bs → AllR R' (as.map f) bs
  | [], [], _, _ => trivial
  | a :: as, b :: bs, hm, h => ⟨hm a (by simp) b h.1, AllR.map_left f (fun a ha => hm a (by simp [ha])) h.2⟩
  | [], _ :: _, _, h => h.elim
  | _ :: _, [], _, h => h.elim
theorem MR.ren {r e : Nat} {π : List (Option Nat)} (h : MR w Pr ρ r e π) (hr : r ∈ ids) (hm : ∀ j ∈ π.filterMap id, j ∈ ids) : MR w Pr (ids.map fun r => ρ.getD r undef) (place r ids) e (π.map fun x => x.map fun j => place j ids) := by
  obtain ⟨v, g, us, a1, a2, a3, a4, a5⟩ := h
  refine ⟨v, g, us, ren_get hr a1, a2, a3, by rw [List.length_map]; exact a4, fun i j hij => ?_⟩
  rw [List.getElem?_map] at hij
  obtain ⟨x, hx, hxj⟩ := Option.map_eq_some_iff.1 hij
  obtain ⟨j', hj', he⟩ := Option.map_eq_some_iff.1 hxj
  subst hj'
  subst he
  obtain ⟨u, hu, hj⟩ := a5 i j' hx
  exact ⟨u, hu, ren_get (hm j' (List.mem_filterMap.2 ⟨some j', List.mem_of_getElem? hx, rfl⟩)) hj⟩
theorem FVR.ren {x : FV} {v : Value} (hm : ∀ r ∈ refsF x, r ∈ ids) (h : FVR w Pr ρ cargs x v) : FVR w Pr (ids.map fun r => ρ.getD r undef) cargs (renF ids x) v := by
  cases x with
  | el e => exact h
  | nil => exact h
  | vw o vec => exact h
  | own r => exact ren_get (hm r (by simp [refsF])) h
  | pt p => exact PtR.ren (fun r hr => hm r hr) h
  | fn f caps =>
    obtain ⟨cs, h1, h2⟩ := h
    exact ⟨cs, h1, AllR.map_left _ (fun p hp v hv => PtR.ren (fun r hr => hm r (List.mem_flatMap.2 ⟨p, hp, hr⟩)) hv) h2⟩
  | vv o kd xss => exact h
  | pv kd xss i => exact h
  | ne k => exact h
  | pl r i =>
    obtain ⟨vr, g, h1, h2⟩ := h
    exact ⟨vr, g, ren_get (hm r (by simp [refsF])) h1, h2⟩
  | mv r e π => exact ⟨ren_get (hm r (by simp [refsF])) h.1, h.2.ren (hm r (by simp [refsF])) fun j hj => hm j (by simp only [refsF, List.mem_cons]; exact .inr hj)⟩
  | pm r e π i =>
    obtain ⟨⟨vr, g0, b1, b2⟩, h2⟩ := h
    exact ⟨⟨vr, g0, ren_get (hm r (by simp [refsF])) b1, b2⟩, h2.ren (hm r (by simp [refsF])) fun j hj => hm j (by simp only [refsF, List.mem_cons]; exact .inr hj)⟩
theorem AVR.ren {x : AV} {v : Value} (hm : ∀ r ∈ refsA x, r ∈ ids) (h : AVR w Pr ρ cargs x v) : AVR w Pr (ids.map fun r => ρ.getD r undef) cargs (renA ids x) v := by
  cases x with
  | un => exact h
  | fv x => exact FVR.ren hm h
  | tup xs =>
    obtain ⟨vs, h1, h2⟩ := h
    exact ⟨vs, h1, AllR.map_left _ (fun x hx v hv => FVR.ren (fun r hr => hm r (List.mem_flatMap.2 ⟨x, hx, hr⟩)) hv) h2⟩
end
theorem at_map {H : Hp} {ids : List Nat} {i : Nat} {row : Row} (hr : (ids.map (rowOf H))[i]? = some (some row)) : ∃ r, ids[i]? = some r ∧ H[r]? = some (some row) := by
  rw [List.getElem?_map] at hr
  obtain ⟨r, h1, h2⟩ := Option.map_eq_some_iff.1 hr
  refine ⟨r, h1, ?_⟩
  unfold rowOf at h2
  split at h2
  · rename_i x hx
    cases hk : x.v.k.isAl with
    | true => rw [hk] at h2; cases h2
    | false => rw [hk] at h2; rw [hx]; exact congrArg some h2
  · cases h2
theorem alAt_map {H : Hp} {ids : List Nat} (i : Nat) (p : Nat × Nat) : alAt (ids.map (rowOf H)) i ≠ some p := by
  intro h
  obtain ⟨e, hr⟩ := alAt_at h
  rw [List.getElem?_map] at hr
  obtain ⟨r, h1, h2⟩ := Option.map_eq_some_iff.1 hr
  unfold rowOf at h2
  split at h2
  · rename_i x hx
    cases hk : x.v.k.isAl with
    | true => rw [hk] at h2; cases h2
    | false => rw [hk] at h2; cases h2; cases hk
  · cases h2
theorem rowAt_map {H : Hp} {ids : List Nat} {i : Nat} {row : Row} (h : rowAt (ids.map (rowOf H)) i = some row) : ∃ r, ids[i]? = some r ∧ rowAt H r = some row := by
  obtain ⟨hk, hr⟩ := rowAt_no h
  obtain ⟨r, h1, h2⟩ := at_map hr
  exact ⟨r, h1, rowAt_of h2 hk⟩
theorem llAt_map {H : Hp} {ids : List Nat} {i : Nat} {row : Row} (h : llAt (ids.map (rowOf H)) i = some row) : ∃ r, ids[i]? = some r ∧ llAt H r = some row := by
  obtain ⟨hk, hr⟩ := llAt_is2 h
  obtain ⟨r, h1, h2⟩ := at_map hr
  exact ⟨r, h1, llAt_of h2 hk⟩
theorem HR.renLL {w : World} {Pr : Nat → Prop} {ρ : List Value} {H : Hp} {ids : List Nat} (hH : HR w Pr ρ H) (hnd : ids.Nodup) : LLR w Pr (ids.map fun r => ρ.getD r undef) (ids.map (rowOf H)) := by
  obtain ⟨I, hI⟩ := hH.ll
  have get : ∀ {i r : Nat} {u : Value}, ids[i]? = some r → ρ[r]? = some u → (ids.map fun r => ρ.getD r undef)[i]? = some u := by
    intro i r u h1 h2
    rw [List.getElem?_map, h1]
    simp [List.getD, h2]
  have inj : ∀ {i i' r : Nat}, ids[i]? = some r → ids[i']? = some r → i = i' := by
    intro i i' r h1 h2
    have hi : i < ids.length := by
      rcases Nat.lt_or_ge i ids.length with h' | h'
      · exact h'
      · rw [List.getElem?_eq_none h'] at h1; cases h1
    exact (List.getElem?_inj hi hnd).1 (h1.trans h2.symm)
  refine ⟨fun i g => ∃ r, ids[i]? = some r ∧ I r g, fun i row z h1 h2 => ?_⟩
  obtain ⟨r, hr, h3⟩ := llAt_map h1
  obtain ⟨v, us, a1, a2, a3, ad, _, a4, a5⟩ := hI r row z h3 h2
  refine ⟨v, us, get hr a1, a2, a3.mono fun xs y hy => hy.mono fun g hg => ⟨r, hr, hg⟩, ad, fun j i' hj => absurd hj (alAt_map j _), ?_, fun g hg => ?_⟩
  · rintro g hg ⟨r', e, h⟩
    rw [hr] at e
    cases e
    exact a4 g hg h
  · have hg' : I r g ∨ v.ownBlock = some g := by
      rcases hg with ⟨r', e, h⟩ | h
      · rw [hr] at e
        cases e
        exact .inl h
      · exact .inr h
    obtain ⟨b1, b2, b3, b4⟩ := a5 g hg'
    refine ⟨b1, b2, fun i' row' v' c1 c2 => ?_, fun i' row' v' c0 c1 c2 => ?_⟩
    · obtain ⟨r', e1, e2⟩ := rowAt_map c1
      obtain ⟨u, e3, _⟩ := hH.row r' row' e2
      rw [get e1 e3] at c2
      cases c2
      exact b3 r' row' _ e2 e3
    · obtain ⟨r', e1, e2⟩ := llAt_map c1
      obtain ⟨z', hz'⟩ := two_some (llAt_is2 e2).1
      obtain ⟨u, _, e3, _⟩ := hI r' row' z' e2 hz'
      rw [get e1 e3] at c2
      cases c2
      have hne : r' ≠ r := fun e => c0 (inj (e ▸ e1) hr)
      obtain ⟨f1, f2⟩ := b4 r' row' _ hne e2 e3
      refine ⟨?_, f2⟩
      rintro ⟨r3, e4, h⟩
      rw [e1] at e4
      cases e4
      exact f1 h
theorem refsP_lt {w : World} {ρ : List Value} {p : PT} {v : Value} (h : PtR w Pr ρ p v) : ∀ r ∈ refsP p, ∃ u, ρ[r]? = some u := by
  obtain ⟨b, sz, i, j⟩ := p
  intro r hr
  cases b with
  | v vec => simp [refsP] at hr
  | r r' =>
    simp [refsP] at hr
    subst hr
    obtain ⟨vr, g, h1, _⟩ := h
    exact ⟨vr, h1⟩
  | w j =>
    simp [refsP] at hr
    subst hr
    obtain ⟨a, u, _, h1, _⟩ := h
    exact ⟨u, h1⟩
  | s kd xss => simp [refsP] at hr
theorem MR.lt {w : World} {Pr : Nat → Prop} {ρ : List Value} {r e j : Nat} {π : List (Option Nat)} (h : MR w Pr ρ r e π) (hj : j ∈ π.filterMap id) : ∃ u, ρ[j]? = some u := by
  obtain ⟨v, g, us, a1, a2, a3, a4, a5⟩ := h
  obtain ⟨x, hx, he⟩ := List.mem_filterMap.1 hj
  obtain ⟨i, hi⟩ := List.getElem?_of_mem hx
  simp only [id_eq] at he
  subst he
  obtain ⟨u, _, hu⟩ := a5 i j hi
  exact ⟨u, hu⟩
theorem refsF_lt {w : World} {ρ : List Value} {x : FV} {v : Value} (h : FVR w Pr ρ cargs x v) : ∀ r ∈ refsF x, ∃ u, ρ[r]? = some u := by
  intro r hr
  cases x with
  | el e => simp [refsF] at hr
  | nil => simp [refsF] at hr
  | vw o vec => simp [refsF] at hr
  | own r' => simp [refsF] at hr; subst hr; exact ⟨v, h⟩
  | pt p => exact refsP_lt h r hr
  | fn f caps =>
    obtain ⟨cs, _, h2⟩ := h
    obtain ⟨p, hp, hr2⟩ := List.mem_flatMap.1 hr
    obtain ⟨i, hi⟩ := List.getElem?_of_mem hp
    obtain ⟨u, _, hu⟩ := h2.get i p hi
    exact refsP_lt hu r hr2
  | vv o kd xss => simp [refsF] at hr
  | pv kd xss i => simp [refsF] at hr
  | ne k => simp [refsF] at hr
  | pl r' i =>
    simp [refsF] at hr
    subst hr
    obtain ⟨vr, g, h1, _⟩ := h
    exact ⟨vr, h1⟩
  | mv r' e π =>
    simp only [refsF, List.mem_cons] at hr
    rcases hr with rfl | hr
    · exact ⟨v, h.1⟩
    · exact h.2.lt hr
  | pm r' e π i =>
    simp only [refsF, List.mem_cons] at hr
    rcases hr with rfl | hr
    · obtain ⟨⟨vr, g, h1, _⟩, _⟩ := h
      exact ⟨vr, h1⟩
    · exact h.2.lt hr
theorem refsA_lt {w : World} {ρ : List Value} {x : AV} {v : Value} (h : AVR w Pr ρ cargs x v) : ∀ r ∈ refsA x, ∃ u, ρ[r]? = some u := by
  intro r hr
  cases x with
  | un => simp [refsA] at hr
  | fv x => exact refsF_lt h r hr
  | tup xs =>
    obtain ⟨vs, _, h2⟩ := h
    obtain ⟨x, hx, hr2⟩ := List.mem_flatMap.1 hr
    obtain ⟨i, hi⟩ := List.getElem?_of_mem hx
    obtain ⟨u, _, hu⟩ := h2.get i x hi
    exact refsF_lt hu r hr2
theorem keep_mem {l : List (Nat × AV)} : ∀ {ts : List Nat} {l' : List (Nat × AV)}, keepSlots l ts = some l' → ∀ t v, (t, v) ∈ l' → lk l t = some v
  | [], l', h, t, v, hv => by simp [keepSlots] at h; subst h; cases hv
  | t' :: ts, l', h, t, v, hv => by
    unfold keepSlots at h
    split at h
    · rename_i u r hu hr
      cases h
      cases hv with
      | head => exact hu
      | tail _ hv => exact keep_mem hr t v hv
    · cases h
theorem stays_spec {ids : List Nat} : ∀ {nf : Nat}, stays nf ids = true → ∀ r, r < nf → ids[r]? = some r
  | 0, _, r, h => by omega
  | n + 1, h, r, hr => by
    unfold stays at h
    rw [Bool.and_eq_true] at h
    by_cases e : r = n
    · subst e
      have h2 := h.2
      split at h2
      · rename_i m hm
        rw [hm, Nat.eq_of_beq_eq_true h2]
      · cases h2
    · exact stays_spec h.1 r (by omega)
theorem normS_ok2 {nf : Nat} {ts : List Nat} {s s' : St} (h : normS nf ts s = some s') {a : Act} {w : World} {ρ : List Value} (hs : SR Pr w0 cargs nt s a w ρ) : ∃ ρ', SR Pr w0 cargs nt s' a w ρ' ∧ Ext nf ρ ρ' ∧ ∀ ids, idsS ts s = some ids → ρ' = ids.map fun r => ρ.getD r undef := by
  unfold normS at h
  split at h
  · rename_i l hl
    cases hst : stays nf (once (l.flatMap fun x => refsA x.2)) with
    | false => rw [hst] at h; cases h
    | true =>
    rw [hst] at h
    cases h
    generalize hids : once (l.flatMap fun x => refsA x.2) = ids at hst
    have hnd : ids.Nodup := by rw [← hids]; exact once_nodup _
    have hmem : ∀ x ∈ l, ∀ r ∈ refsA x.2, r ∈ ids := fun x hx r hr => by rw [← hids, once_mem]; exact List.mem_flatMap.2 ⟨x, hx, hr⟩
    have hval : ∀ r ∈ ids, ∃ u, ρ[r]? = some u := by
      intro r hr
      rw [← hids, once_mem] at hr
      obtain ⟨⟨t, v⟩, hx, hr2⟩ := List.mem_flatMap.1 hr
      exact refsA_lt (hs.slots t v (keep_mem hl t v hx)) r hr2
    refine ⟨ids.map fun r => ρ.getD r undef, ?_, fun r u h1 h2 => by rw [List.getElem?_map, stays_spec hst r h1]; simp [List.getD, h2], fun ids' h1 => by unfold idsS at h1; rw [hl] at h1; cases h1; rw [hids]⟩
    refine ⟨hs.size, hs.defers, fun t v hv => ?_, ⟨by simp, fun i row hrow => ?_, fun i i' row row' v v' g hne h1 h2 h3 h4 h5 => ?_, hs.heap.renLL hnd⟩, hs.keep⟩
    · dsimp only at hv
      rw [lk_map (renA ids)] at hv
      obtain ⟨u, hu, rfl⟩ := Option.map_eq_some_iff.1 hv
      obtain ⟨d, hd⟩ := lk_mem hu
      exact (hs.slots t u (keep_lk hl t u hu)).ren (fun r hr => hmem _ hd r hr)
    · obtain ⟨r, h1, h2⟩ := rowAt_map hrow
      obtain ⟨v, h3, h4⟩ := hs.heap.row r row h2
      refine ⟨v, ?_, h4⟩
      rw [List.getElem?_map, h1]
      simp [List.getD, h3]
    · obtain ⟨r, a1, a2⟩ := rowAt_map h1
      obtain ⟨r', b1, b2⟩ := rowAt_map h2
      obtain ⟨u, hu, _⟩ := hs.heap.row r row a2
      obtain ⟨u', hu', _⟩ := hs.heap.row r' row' b2
      rw [List.getElem?_map, a1] at h3
      rw [List.getElem?_map, b1] at h4
      simp [List.getD, hu] at h3
      simp [List.getD, hu'] at h4
      subst h3 h4
      have hrr : r ≠ r' := by
        intro e
        subst e
        apply hne
        have hi : i < ids.length := by
          rcases Nat.lt_or_ge i ids.length with h' | h'
          · exact h'
          · rw [List.getElem?_eq_none h'] at a1; cases a1
        exact (List.getElem?_inj hi hnd).1 (a1.trans b1.symm)
      exact hs.heap.apart r r' row row' _ _ g hrr a2 b2 hu hu' h5
  · cases h
theorem normS_ok {nf : Nat} {ts : List Nat} {s s' : St} (h : normS nf ts s = some s') {a : Act} {w : World} {ρ : List Value} (hs : SR Pr w0 cargs nt s a w ρ) : ∃ ρ', SR Pr w0 cargs nt s' a w ρ' ∧ Ext nf ρ ρ' := by
  obtain ⟨ρ', h1, h2, _⟩ := normS_ok2 h hs
  exact ⟨ρ', h1, h2⟩
end
end Go.Sm
