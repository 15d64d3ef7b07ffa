/- How the values and the memory of a run stand to the plain data of the machine; small laws on this. -/
import Derived.Test.YtngcejakoaoojaaA2
import Derived.Carry
namespace Go.Sm
open Go Go.RowKit

/-! ### Two lists, element by element -/

def AllR {α β : Type} (R : α → β → Prop) : List α → List β → Prop
  | [], [] => True
  | a :: as, b :: bs => R a b ∧ AllR R as bs
  | _, _ => False

section
variable {α β : Type} {R R' : α → β → Prop}

theorem AllR.length : ∀ {as : List α} {bs : List β}, AllR R as bs → as.length = bs.length
  | [], [], _ => rfl
  | _ :: _, _ :: _, h => congrArg (· + 1) h.2.length
  | [], _ :: _, h => h.elim
  | _ :: _, [], h => h.elim

theorem AllR.mono (hm : ∀ a b, R a b → R' a b) : ∀ {as : List α} {bs : List β}, AllR R as bs → AllR R' as bs
  | [], [], _ => trivial
  | _ :: _, _ :: _, h => ⟨hm _ _ h.1, h.2.mono hm⟩
  | [], _ :: _, h => h.elim
  | _ :: _, [], h => h.elim

theorem AllR.get : ∀ {as : List α} {bs : List β}, AllR R as bs → ∀ (i : Nat) (a : α), as[i]? = some a → ∃ b, bs[i]? = some b ∧ R a b
  | [], [], _, i, a, hi => by simp at hi
  | x :: as, y :: bs, h, 0, a, hi => by simp at hi; subst hi; exact ⟨y, rfl, h.1⟩
  | x :: as, y :: bs, h, i + 1, a, hi => by simpa using h.2.get i a (by simpa using hi)
  | [], _ :: _, h, _, _, _ => h.elim
  | _ :: _, [], h, _, _, _ => h.elim

theorem AllR.getR : ∀ {as : List α} {bs : List β}, AllR R as bs → ∀ (i : Nat) (b : β), bs[i]? = some b → ∃ a, as[i]? = some a ∧ R a b
  | [], [], _, i, a, hi => by simp at hi
  | x :: as, y :: bs, h, 0, a, hi => by simp at hi; subst hi; exact ⟨x, rfl, h.1⟩
  | x :: as, y :: bs, h, i + 1, a, hi => by simpa using h.2.getR i a (by simpa using hi)
  | [], _ :: _, h, _, _, _ => h.elim
  | _ :: _, [], h, _, _, _ => h.elim

theorem AllR.append : ∀ {as : List α} {bs : List β} {cs : List α} {ds : List β}, AllR R as bs → AllR R cs ds → AllR R (as ++ cs) (bs ++ ds)
  | [], [], _, _, _, h2 => h2
  | _ :: _, _ :: _, _, _, h, h2 => ⟨h.1, h.2.append h2⟩
  | [], _ :: _, _, _, h, _ => h.elim
  | _ :: _, [], _, _, h, _ => h.elim

theorem AllR.of_get : ∀ {as : List α} {bs : List β}, as.length = bs.length → (∀ (i : Nat) (a : α) (b : β), as[i]? = some a → bs[i]? = some b → R a b) → AllR R as bs
  | [], [], _, _ => trivial
  | a :: as, b :: bs, hl, h => ⟨h 0 a b rfl rfl, AllR.of_get (by simpa using hl) fun i x y hx hy => h (i + 1) x y (by simpa using hx) (by simpa using hy)⟩
  | [], _ :: _, hl, _ => by simp at hl
  | _ :: _, [], hl, _ => by simp at hl

theorem AllR.take {as : List α} {bs : List β} (h : AllR R as bs) (n : Nat) : AllR R (as.take n) (bs.take n) := by
  refine AllR.of_get (by simp [h.length]) fun i a b ha hb => ?_
  rw [List.getElem?_take] at ha hb
  split at ha
  · rename_i hi
    rw [if_pos hi] at hb
    obtain ⟨b', hb', hr⟩ := h.get i a ha
    rw [hb] at hb'
    cases hb'
    exact hr
  · cases ha

theorem AllR.drop {as : List α} {bs : List β} (h : AllR R as bs) (n : Nat) : AllR R (as.drop n) (bs.drop n) := by
  refine AllR.of_get (by simp [h.length]) fun i a b ha hb => ?_
  rw [List.getElem?_drop] at ha hb
  obtain ⟨b', hb', hr⟩ := h.get _ a ha
  rw [hb] at hb'
  cases hb'
  exact hr

theorem AllR.set {as : List α} {bs : List β} (h : AllR R as bs) (i : Nat) {a : α} {b : β} (hr : R a b) : AllR R (as.set i a) (bs.set i b) := by
  refine AllR.of_get (by simp [h.length]) fun j x y hx hy => ?_
  rw [List.getElem?_set] at hx hy
  by_cases e : i = j
  · rw [if_pos e] at hx hy
    split at hx
    · cases hx
      split at hy
      · cases hy; exact hr
      · cases hy
    · cases hx
  · rw [if_neg e] at hx hy
    obtain ⟨b', hb', hr⟩ := h.get _ x hx
    rw [hy] at hb'
    cases hb'
    exact hr

theorem AllR.replicate {a : α} {b : β} (h : R a b) : ∀ n : Nat, AllR R (List.replicate n a) (List.replicate n b)
  | 0 => trivial
  | n + 1 => ⟨h, AllR.replicate h n⟩
end

/-! ### Values -/

def SCR : SC → Value → Prop
  | .int k n, v => v = .int k n
  | .bo b, v => v = .bool b
  | .fl k c, v => ∃ b, v = .float k b ∧ cn k b = c
  | .cx k a b, v => ∃ x y, v = .complex k x y ∧ cn k x = a ∧ cn k y = b

def ElR : Elt → Value → Prop
  | .sc s, v => SCR s v
  | .ag cs, v => ∃ vs, v = .agg vs.toArray ∧ AllR SCR cs vs

theorem SCR.one {s : SC} {v : Value} (h : SCR s v) : v.oneCell' = true := by
  cases s with
  | int k n => rw [show v = .int k n from h]; rfl
  | bo b => rw [show v = .bool b from h]; rfl
  | fl k c => obtain ⟨b, rfl, _⟩ := h; rfl
  | cx k a b => obtain ⟨x, y, rfl, _⟩ := h; rfl

theorem SCR.cells {s : SC} {v : Value} (h : SCR s v) : v.cells = #[v] := by
  cases s with
  | int k n => rw [show v = .int k n from h]; rfl
  | bo b => rw [show v = .bool b from h]; rfl
  | fl k c => obtain ⟨b, rfl, _⟩ := h; rfl
  | cx k a b => obtain ⟨x, y, rfl, _⟩ := h; rfl

/-- The cells of a value, element by element. -/
theorem ElR.cells {e : Elt} {v : Value} (h : ElR e v) : ∃ vs, v.cells = vs.toArray ∧ AllR SCR e.cells vs := by
  cases e with
  | sc s => exact ⟨[v], by rw [SCR.cells h], ⟨h, trivial⟩⟩
  | ag cs => obtain ⟨vs, rfl, hv⟩ := h; exact ⟨vs, rfl, hv⟩

theorem K.len_f (k : K) (a : k.ty) : (k.f a).cells.length = k.sz := by cases k <;> rfl

theorem K.g_f {k : K} {e : Elt} {a : k.ty} (h : k.g e = some a) : k.f a = e := by
  unfold K.g at h
  split at h <;> first | (cases h; rfl) | (cases h; done)

theorem K.agg_f {k : K} (h : k.agg = true) (a : k.ty) : ∃ cs, k.f a = .ag cs := by
  cases k <;> simp [K.agg] at h <;> exact ⟨_, rfl⟩

theorem K.sc_f {k : K} (h : k.agg = false) (a : k.ty) : ∃ s, k.f a = .sc s := by
  cases k <;> simp [K.agg] at h <;> exact ⟨_, rfl⟩

theorem K.sz_sc {k : K} (h : k.agg = false) : k.sz = 1 := by cases k <;> simp [K.agg] at h <;> rfl
theorem K.sz_pos (k : K) : 0 < k.sz := by cases k <;> decide
theorem K.sz_le (k : K) : k.sz ≤ 4 := by cases k <;> decide

/-! ### Memory -/

theorem flat_len {α β : Type} (f : α → List β) (n : Nat) (hf : ∀ a, (f a).length = n) : ∀ xs : List α, (xs.flatMap f).length = xs.length * n
  | [] => by simp
  | x :: xs => by simp [hf, flat_len f n hf xs, Nat.add_mul, Nat.add_comm]

theorem flat_get {α β : Type} (f : α → List β) (n : Nat) (hf : ∀ a, (f a).length = n) : ∀ (xs : List α) (i j : Nat) (a : α), xs[i]? = some a → j < n → (xs.flatMap f)[i * n + j]? = (f a)[j]?
  | [], i, j, a, h, _ => by simp at h
  | x :: xs, 0, j, a, h, hj => by
    simp at h
    subst h
    simp [List.getElem?_append, hf, hj]
  | x :: xs, i + 1, j, a, h, hj => by
    have ih := flat_get f n hf xs i j a (by simpa using h) hj
    have e : (i + 1) * n + j = n + (i * n + j) := by rw [Nat.add_mul]; omega
    rw [e, List.flatMap_cons, List.getElem?_append, if_neg (by rw [hf]; omega), hf, Nat.add_sub_cancel_left]
    exact ih

theorem flat_set {α β : Type} (f : α → List β) (n : Nat) (hf : ∀ a, (f a).length = n) : ∀ (xs : List α) (i : Nat) (a : α), i < xs.length →
    (xs.set i a).flatMap f = (xs.flatMap f).take (i * n) ++ f a ++ (xs.flatMap f).drop (i * n + n)
  | [], i, a, h => by simp at h
  | x :: xs, 0, a, h => by
    have : (f x ++ xs.flatMap f).drop n = xs.flatMap f := by rw [← hf x]; simp
    simp [this]
  | x :: xs, i + 1, a, h => by
    have ih := flat_set f n hf xs i a (by simpa using h)
    have e : (i + 1) * n = n + i * n := by rw [Nat.add_mul]; omega
    have e2 : n + i * n + n = n + (i * n + n) := by omega
    have t1 : (f x ++ xs.flatMap f).take (n + i * n) = f x ++ (xs.flatMap f).take (i * n) := by
      rw [List.take_append, hf]; simp [hf, List.take_of_length_le, Nat.le_add_right]
    have t2 : (f x ++ xs.flatMap f).drop (n + (i * n + n)) = (xs.flatMap f).drop (i * n + n) := by
      rw [List.drop_append, hf]; simp [hf, List.drop_of_length_le, Nat.le_add_right]
    rw [List.set_cons_succ, List.flatMap_cons, ih, List.flatMap_cons, e, e2, t1, t2]
    simp

theorem Vec.len_cells (v : Vec) : v.cells.length = v.xs.length * v.k.sz := flat_len _ _ v.k.len_f v.xs

theorem Vec.get_cells (v : Vec) (i j : Nat) (a : v.k.ty) (h : v.xs[i]? = some a) (hj : j < v.k.sz) : v.cells[i * v.k.sz + j]? = (v.k.f a).cells[j]? :=
  flat_get _ _ v.k.len_f v.xs i j a h hj

theorem add_add (a : Addr) (m n : Nat) : (a.add m).add n = a.add (m + n) := by
  cases m with
  | zero => simp [Addr.add]
  | succ m =>
    cases n with
    | zero => simp [Addr.add]
    | succ n =>
      have h : ¬ m + 1 + (n + 1) = 0 := by omega
      simp only [Addr.add, h, if_false, Nat.add_eq_zero_iff, Nat.succ_ne_self, and_false]
      simp

theorem add_block (a : Addr) (n : Nat) : (a.add n).block = a.block := by unfold Addr.add; split <;> rfl

def CellsR (w : World) (a : Addr) (cs : List SC) : Prop := ∀ i s, cs[i]? = some s → ∃ u, w.cell? (a.add i) = some u ∧ SCR s u

theorem CellsR.keep {w w' : World} {a : Addr} {cs : List SC} (h : CellsR w a cs) (hb : w'.heap[a.block]? = w.heap[a.block]?) : CellsR w' a cs := by
  intro i s hi
  obtain ⟨u, hu, hs⟩ := h i s hi
  refine ⟨u, ?_, hs⟩
  rw [World.cell?_of_block (w := w) (by rw [add_block]; exact hb)]
  exact hu

/-- A slice that is only read. -/
def VwR (w : World) (Pr : Nat → Prop) (v : Value) (vec : Vec) : Prop :=
  (v = .slice none 0 0 ∧ vec.xs = []) ∨ ∃ a cap, v = .slice (some a) vec.xs.length cap ∧ vec.xs.length ≤ cap ∧ (vec.xs = [] ∨ Pr a.block) ∧ CellsR w a vec.cells

/-- A row of the call's own. -/
def RowR (w : World) (Pr : Nat → Prop) (v : Value) (e : Nat) (vec : Vec) : Prop :=
  ∃ vs, w.ownsRow 0 e vec.k.sz v vec.xs.length vs ∧ AllR SCR vec.cells vs ∧ ∀ g, v.ownBlock = some g → ¬ Pr g

def PtR (w : World) (Pr : Nat → Prop) (ρ : List Value) (p : PT) (v : Value) : Prop :=
  match p.b with
  | .v vec => ∃ a, Pr a.block ∧ CellsR w a vec.cells ∧ p.sz = vec.k.sz ∧ v = .pointer (some (a.add (p.i * p.sz + p.j)))
  | .r r => ∃ vr g, ρ[r]? = some vr ∧ vr.ownBlock = some g ∧ v = .pointer (some ⟨g, p.i * p.sz + p.j, none⟩)

def FVR (w : World) (Pr : Nat → Prop) (ρ cargs : List Value) : FV → Value → Prop
  | .el e, v => ElR e v
  | .nil, v => v = .slice none 0 0
  | .vw o vec, v => VwR w Pr v vec ∧ ∀ i, o = some i → cargs[i]? = some v
  | .own r, v => ρ[r]? = some v
  | .pt p, v => PtR w Pr ρ p v
  | .fn f caps, v => ∃ cs, v = .func (.func f) #[] cs.toArray ∧ AllR (PtR w Pr ρ) caps cs

def AVR (w : World) (Pr : Nat → Prop) (ρ cargs : List Value) : AV → Value → Prop
  | .un, v => v = undef
  | .fv x, v => FVR w Pr ρ cargs x v
  | .tup xs, v => ∃ vs, v = .tuple vs.toArray ∧ AllR (FVR w Pr ρ cargs) xs vs

structure HR (w : World) (Pr : Nat → Prop) (ρ : List Value) (H : Hp) : Prop where
  len : ρ.length = H.length
  row : ∀ r row, rowAt H r = some row → ∃ v, ρ[r]? = some v ∧ RowR w Pr v row.e row.v
  apart : ∀ r r' row row' v v' g, r ≠ r' → rowAt H r = some row → rowAt H r' = some row' → ρ[r]? = some v → ρ[r']? = some v' → v.ownBlock = some g → v'.ownBlock ≠ some g

/-- What is protected is as it was; the streams are as they were. -/
structure Keep (Pr : Nat → Prop) (w w' : World) : Prop where
  os : w'.os = w.os
  tape : w'.tape = w.tape
  output : w'.output = w.output
  size : w.heap.size ≤ w'.heap.size
  block : ∀ k, Pr k → w'.heap[k]? = w.heap[k]?

theorem Keep.refl (Pr : Nat → Prop) (w : World) : Keep Pr w w := ⟨rfl, rfl, rfl, Nat.le_refl _, fun _ _ => rfl⟩
theorem Keep.trans {Pr : Nat → Prop} {a b c : World} (h : Keep Pr a b) (k : Keep Pr b c) : Keep Pr a c :=
  ⟨k.os.trans h.os, k.tape.trans h.tape, k.output.trans h.output, Nat.le_trans h.size k.size, fun i hi => (k.block i hi).trans (h.block i hi)⟩
theorem Keep.of_below {Pr : Nat → Prop} {w w' : World} (h : Below w.heap.size w w') (hp : ∀ k, Pr k → k < w.heap.size) : Keep Pr w w' :=
  ⟨h.os, h.tape, h.output, h.size, fun k hk => h.block k (hp k hk)⟩

section
variable {w w' : World} {Pr : Nat → Prop} {ρ ρ' cargs : List Value}

theorem VwR.keep (hk : ∀ k, Pr k → w'.heap[k]? = w.heap[k]?) {v : Value} {vec : Vec} (h : VwR w Pr v vec) : VwR w' Pr v vec := by
  rcases h with h | ⟨a, cap, h1, h2, h3, h4⟩
  · exact .inl h
  · refine .inr ⟨a, cap, h1, h2, h3, ?_⟩
    rcases h3 with h3 | h3
    · intro i s hi; simp [Vec.cells, h3] at hi
    · exact h4.keep (hk _ h3)

theorem PtR.keep (hk : ∀ k, Pr k → w'.heap[k]? = w.heap[k]?) (hr : ∀ (r : Nat) (v : Value), ρ[r]? = some v → ρ'[r]? = some v) {p : PT} {v : Value} (h : PtR w Pr ρ p v) : PtR w' Pr ρ' p v := by
  unfold PtR at *
  split
  · rename_i vec hb
    rw [hb] at h
    obtain ⟨a, h1, h2, h3⟩ := h
    exact ⟨a, h1, h2.keep (hk _ h1), h3⟩
  · rename_i r hb
    rw [hb] at h
    obtain ⟨vr, g, h1, h2⟩ := h
    exact ⟨vr, g, hr _ _ h1, h2⟩

theorem FVR.keep (hk : ∀ k, Pr k → w'.heap[k]? = w.heap[k]?) (hr : ∀ (r : Nat) (v : Value), ρ[r]? = some v → ρ'[r]? = some v) {x : FV} {v : Value} (h : FVR w Pr ρ cargs x v) : FVR w' Pr ρ' cargs x v := by
  cases x with
  | el e => exact h
  | nil => exact h
  | vw o vec => exact ⟨h.1.keep hk, h.2⟩
  | own r => exact hr _ _ h
  | pt p => exact PtR.keep hk hr h
  | fn f caps => obtain ⟨cs, h1, h2⟩ := h; exact ⟨cs, h1, h2.mono fun _ _ => PtR.keep hk hr⟩

theorem AVR.keep (hk : ∀ k, Pr k → w'.heap[k]? = w.heap[k]?) (hr : ∀ (r : Nat) (v : Value), ρ[r]? = some v → ρ'[r]? = some v) {x : AV} {v : Value} (h : AVR w Pr ρ cargs x v) : AVR w' Pr ρ' cargs x v := by
  cases x with
  | un => exact h
  | fv x => exact FVR.keep hk hr h
  | tup xs => obtain ⟨vs, h1, h2⟩ := h; exact ⟨vs, h1, h2.mono fun _ _ => FVR.keep hk hr⟩

theorem ownsRow_keep {b e s n : Nat} {v : Value} {xs : List Value} (hk : ∀ g, v.ownBlock = some g → w'.heap[g]? = w.heap[g]?) (h : w.ownsRow b e s v n xs) : w'.ownsRow b e s v n xs := by
  refine ⟨h.1, ?_⟩
  rcases h.2 with h2 | ⟨g, cap, cur, rfl, hb, hg, rest⟩
  · exact .inl h2
  · exact .inr ⟨g, cap, cur, rfl, hb, (hk g rfl).trans hg, rest⟩

theorem RowR.keep {v : Value} {e : Nat} {vec : Vec} (hk : ∀ g, v.ownBlock = some g → w'.heap[g]? = w.heap[g]?) (h : RowR w Pr v e vec) : RowR w' Pr v e vec := by
  obtain ⟨vs, h1, h2, h3⟩ := h
  exact ⟨vs, ownsRow_keep hk h1, h2, h3⟩

theorem RowR.lt {v : Value} {e : Nat} {vec : Vec} (h : RowR w Pr v e vec) {g : Nat} (hg : v.ownBlock = some g) : g < w.heap.size := by
  obtain ⟨vs, h1, _⟩ := h
  exact (h1.lt g hg).2

theorem HR.keep {H : Hp} (hs : ∀ k, k < w.heap.size → w'.heap[k]? = w.heap[k]?) (h : HR w Pr ρ H) : HR w' Pr ρ H := by
  refine ⟨h.len, fun r row hr => ?_, h.apart⟩
  obtain ⟨v, h1, h2⟩ := h.row r row hr
  exact ⟨v, h1, h2.keep fun g hg => hs g (h2.lt hg)⟩
end

/-- The first rows are the same. -/
def Ext (nf : Nat) (ρ ρ' : List Value) : Prop := ∀ (r : Nat) (u : Value), r < nf → ρ[r]? = some u → ρ'[r]? = some u

theorem Ext.refl (nf : Nat) (ρ : List Value) : Ext nf ρ ρ := fun _ _ _ h => h
theorem Ext.trans {nf : Nat} {a b c : List Value} (h : Ext nf a b) (k : Ext nf b c) : Ext nf a c := fun r u hr hu => k r u hr (h r u hr hu)

/-- The state of the machine and a frame. -/
structure SR (Pr : Nat → Prop) (w0 : World) (cargs : List Value) (nt : Nat) (s : St) (a : Act) (w : World) (ρ : List Value) : Prop where
  size : a.tmps.size = nt
  defers : a.defers = []
  slots : ∀ t v, lk s.sl t = some v → AVR w Pr ρ cargs v (a.tmps.getD t undef)
  heap : HR w Pr ρ s.H
  keep : Keep Pr w0 w

end Go.Sm
