/- A machine on plain data, its laws: part 5. -/
import Derived.Test.YtngcejakoaoojaaK4
/- A slice of slices each of which is a row by itself: how it is made, written, handed on. -/
namespace Go.Sm
open Go Go.RowKit

/-! ### Values that are told without memory -/

def plF : FV → Bool
  | .el _ => true
  | .nil => true
  | .own _ => true
  | .pl _ _ => true
  | .pt p => (match p.b with
    | .r _ => true
    | _ => false)
  | _ => false
def vfF : FV → Bool
  | .mv _ _ _ => true
  | .pm _ _ _ _ => true
  | x => plF x
def vfA : AV → Bool
  | .un => true
  | .fv x => vfF x
  | .tup xs => xs.all plF

def VFF (ρ : List Value) (x : FV) (v : Value) : Prop := match x with
  | .mv r _ _ => ρ[r]? = some v
  | .pm r _ _ i => ∃ vr g, ρ[r]? = some vr ∧ vr.ownBlock = some g ∧ v = .pointer (some ⟨g, i, none⟩)
  | x => ∀ (w : World) (Pr : Nat → Prop) (cargs : List Value), FVR w Pr ρ cargs x v
def VFA (ρ : List Value) : AV → Value → Prop
  | .un, v => v = undef
  | .fv x, v => VFF ρ x v
  | .tup xs, v => ∃ vs, v = .tuple vs.toArray ∧ AllR (VFF ρ) xs vs
def matF (w : World) (Pr : Nat → Prop) (ρ : List Value) : FV → Prop
  | .mv r e π => MR w Pr ρ r e π
  | .pm r e π _ => MR w Pr ρ r e π
  | _ => True
def matA (w : World) (Pr : Nat → Prop) (ρ : List Value) : AV → Prop
  | .fv x => matF w Pr ρ x
  | _ => True

section
variable {P : Program} {T : TT} {Pr : Nat → Prop} {w0 w w' : World} {ρ ρ' cargs : List Value} {nt : Nat}

theorem plF_vf {x : FV} (h : plF x = true) : vfF x = true := by cases x <;> first | rfl | exact h
theorem plF_mat {x : FV} (h : plF x = true) : matF w Pr ρ x := by cases x <;> first | trivial | cases h

theorem VFF.of {x : FV} {v : Value} (hx : vfF x = true) (h : FVR w Pr ρ cargs x v) : VFF ρ x v := by
  cases x with
  | el e => exact fun _ _ _ => h
  | nil => exact fun _ _ _ => h
  | own r => exact fun _ _ _ => h
  | pl r i => exact fun _ _ _ => h
  | mv r e π => exact h.1
  | pm r e π i => exact h.1
  | pt p =>
    obtain ⟨b, sz, i, j⟩ := p
    cases b with
    | r r => exact fun _ _ _ => h
    | v _ => cases hx
    | w _ => cases hx
    | s _ _ => cases hx
  | vw _ _ => cases hx
  | fn _ _ => cases hx
  | vv _ _ _ => cases hx
  | pv _ _ _ => cases hx
  | ne _ => cases hx

theorem VFF.to {x : FV} {v : Value} (hx : vfF x = true) (h : VFF ρ x v) (hm : matF w Pr ρ x) : FVR w Pr ρ cargs x v := by
  cases x with
  | mv r e π => exact ⟨h, hm⟩
  | pm r e π i => exact ⟨h, hm⟩
  | el e => exact h w Pr cargs
  | nil => exact h w Pr cargs
  | own r => exact h w Pr cargs
  | pl r i => exact h w Pr cargs
  | pt p => exact h w Pr cargs
  | vw _ _ => cases hx
  | fn _ _ => cases hx
  | vv _ _ _ => cases hx
  | pv _ _ _ => cases hx
  | ne _ => cases hx

theorem VFF.ext {x : FV} {v : Value} (hr : ∀ (r : Nat) (u : Value), ρ[r]? = some u → ρ'[r]? = some u) (h : VFF ρ x v) : VFF ρ' x v := by
  cases x with
  | mv r e π => exact hr _ _ h
  | pm r e π i => obtain ⟨vr, g, h1, h2⟩ := h; exact ⟨vr, g, hr _ _ h1, h2⟩
  | _ => exact fun w Pr cargs => (h w Pr cargs).keep (fun _ _ => rfl) hr

theorem VFA.of {x : AV} {v : Value} (hx : vfA x = true) (h : AVR w Pr ρ cargs x v) : VFA ρ x v := by
  cases x with
  | un => exact h
  | fv x => exact VFF.of hx h
  | tup xs =>
    obtain ⟨vs, h1, h2⟩ := h
    refine ⟨vs, h1, ?_⟩
    clear h1
    have hx' : xs.all plF = true := hx
    clear hx
    induction xs generalizing vs with
    | nil => cases vs with
      | nil => trivial
      | cons _ _ => exact h2.elim
    | cons x xs ih => cases vs with
      | nil => exact h2.elim
      | cons u us =>
        rw [List.all_cons, Bool.and_eq_true] at hx'
        exact ⟨VFF.of (plF_vf hx'.1) h2.1, ih us h2.2 hx'.2⟩

theorem VFFs.to {xs : List FV} : ∀ {vs : List Value}, xs.all plF = true → AllR (VFF ρ) xs vs → AllR (FVR w Pr ρ cargs) xs vs := by
  induction xs with
  | nil => intro vs _ h; cases vs with
    | nil => trivial
    | cons _ _ => exact h.elim
  | cons x xs ih => intro vs hx h; cases vs with
    | nil => exact h.elim
    | cons u us =>
      rw [List.all_cons, Bool.and_eq_true] at hx
      exact ⟨VFF.to (plF_vf hx.1) h.1 (plF_mat hx.1), ih hx.2 h.2⟩

theorem VFA.to {x : AV} {v : Value} (hx : vfA x = true) (h : VFA ρ x v) (hm : matA w Pr ρ x) : AVR w Pr ρ cargs x v := by
  cases x with
  | un => exact h
  | fv x => exact VFF.to hx h hm
  | tup xs =>
    obtain ⟨vs, h1, h2⟩ := h
    exact ⟨vs, h1, VFFs.to hx h2⟩

/-- What is left of the slots: each once, changed or forgotten. -/
def clean (f : AV → Option AV) : List Nat → List (Nat × AV) → List (Nat × AV)
  | _, [] => []
  | seen, (t, v) :: l => bif memN t seen then clean f seen l else match f v with
    | some v' => (t, v') :: clean f (t :: seen) l
    | none => clean f (t :: seen) l

theorem clean_lk {f : AV → Option AV} : ∀ {l : List (Nat × AV)} {seen : List Nat} {t : Nat} {v' : AV}, lk (clean f seen l) t = some v' → t ∉ seen ∧ ∃ v, lk l t = some v ∧ f v = some v'
  | [], _, t, v', h => by cases h
  | (t0, v0) :: l, seen, t, v', h => by
    unfold clean at h
    cases hm : memN t0 seen with
    | true =>
      rw [hm] at h
      obtain ⟨h1, v, h2, h3⟩ := clean_lk (l := l) h
      refine ⟨h1, v, ?_, h3⟩
      rw [lk_cons, if_neg (fun e => h1 (by rw [← e]; exact memN_iff.1 hm))]
      exact h2
    | false =>
      rw [hm] at h
      simp only [cond_false] at h
      have hn : t0 ∉ seen := fun hh => by rw [memN_iff.2 hh] at hm; cases hm
      split at h
      · rename_i v1 hv1
        rw [lk_cons] at h
        split at h
        · rename_i e
          subst e
          cases h
          exact ⟨hn, v0, by rw [lk_cons, if_pos rfl], hv1⟩
        · rename_i hne
          obtain ⟨h1, v, h2, h3⟩ := clean_lk (l := l) h
          exact ⟨fun hh => h1 (List.mem_cons_of_mem _ hh), v, by rw [lk_cons, if_neg hne]; exact h2, h3⟩
      · obtain ⟨h1, v, h2, h3⟩ := clean_lk (l := l) h
        refine ⟨fun hh => h1 (List.mem_cons_of_mem _ hh), v, ?_, h3⟩
        rw [lk_cons, if_neg (fun e => h1 (by rw [e]; exact List.mem_cons_self))]
        exact h2

/-- The slots that lead to the slice of slices know what it holds now; what needs memory otherwise is forgotten. -/
def keepM (r e : Nat) (π : List (Option Nat)) : AV → Option AV
  | .fv (.mv r' _ _) => bif Nat.beq r r' then some (.fv (.mv r e π)) else none
  | .fv (.pm r' _ _ i) => bif Nat.beq r r' then some (.fv (.pm r e π i)) else none
  | v => bif vfA v then some v else none

theorem keepM_spec {r e : Nat} {π : List (Option Nat)} {v v' : AV} (h : keepM r e π v = some v') : vfA v = true ∧ vfA v' = true ∧ (∀ ρ u, VFA ρ v u → VFA ρ v' u) ∧ ∀ w Pr ρ, MR w Pr ρ r e π → matA w Pr ρ v' := by
  have other : ∀ v, (bif vfA v then some v else none) = some v' → (∀ r e π, v ≠ .fv (.mv r e π)) → (∀ r e π i, v ≠ .fv (.pm r e π i)) → vfA v = true ∧ vfA v' = true ∧ (∀ ρ u, VFA ρ v u → VFA ρ v' u) ∧ ∀ w Pr ρ, MR w Pr ρ r e π → matA w Pr ρ v' := by
    intro v h h1 h2
    cases hv : vfA v with
    | false => rw [hv] at h; cases h
    | true =>
      rw [hv] at h
      cases h
      refine ⟨rfl, hv, fun _ _ h => h, fun w Pr ρ _ => ?_⟩
      cases v' with
      | un => trivial
      | tup xs => trivial
      | fv x => cases x with
        | mv r e π => exact absurd rfl (h1 r e π)
        | pm r e π i => exact absurd rfl (h2 r e π i)
        | _ => trivial
  unfold keepM at h
  split at h
  · rename_i r' e' π'
    cases hb : Nat.beq r r' with
    | false => rw [hb] at h; cases h
    | true =>
      rw [hb] at h
      cases h
      have := Nat.eq_of_beq_eq_true hb
      subst this
      exact ⟨rfl, rfl, fun _ _ h => h, fun _ _ _ h => h⟩
  · rename_i r' e' π' i
    cases hb : Nat.beq r r' with
    | false => rw [hb] at h; cases h
    | true =>
      rw [hb] at h
      cases h
      have := Nat.eq_of_beq_eq_true hb
      subst this
      exact ⟨rfl, rfl, fun _ _ h => h, fun _ _ _ h => h⟩
  · rename_i h1 h2
    exact other _ h (fun r e π => h1 r e π) (fun r e π i => h2 r e π i)

/-- Without the slice of slices. -/
def plainO : AV → Option AV
  | .fv x => bif plF x then some (.fv x) else none
  | v => bif vfA v then some v else none

theorem plainO_spec {v v' : AV} (h : plainO v = some v') : v' = v ∧ vfA v = true ∧ ∀ w Pr ρ, matA w Pr ρ v := by
  unfold plainO at h
  split at h
  · rename_i x
    cases hb : plF x with
    | false => rw [hb] at h; cases h
    | true =>
      rw [hb] at h
      cases h
      exact ⟨rfl, plF_vf hb, fun _ _ _ => plF_mat hb⟩
  · rename_i h1
    cases hv : vfA v with
    | false => rw [hv] at h; cases h
    | true =>
      rw [hv] at h
      cases h
      refine ⟨rfl, rfl, fun w Pr ρ => ?_⟩
      cases v with
      | un => trivial
      | tup xs => trivial
      | fv x => exact absurd rfl (h1 x)

/-! ### Memory that is protected is changed -/

theorem HR.keepPr {H : Hp} (h : HR w Pr ρ H) (hs : ∀ k, ¬ Pr k → w'.heap[k]? = w.heap[k]?) (hsz : w'.heap.size = w.heap.size) : HR w' Pr ρ H := by
  refine ⟨h.len, fun r row hr => ?_, h.apart, ?_⟩
  · obtain ⟨v, hv, us, h1, h2, h3⟩ := h.row r row hr
    exact ⟨v, hv, us, ownsRow_keep (fun g hg => hs g (h3 g hg)) h1, h2, h3⟩
  · obtain ⟨I, hI⟩ := h.ll
    refine ⟨I, fun r row z h1 h2 => ?_⟩
    obtain ⟨v, us, a1, a2, a3, ad, aa, a4, a5⟩ := hI r row z h1 h2
    have hk : ∀ g, (I r g ∨ v.ownBlock = some g) → w'.heap[g]? = w.heap[g]? := fun g hg => hs g (a5 g hg).2.1
    exact ⟨v, us, a1, ownsRow_keep (fun g hg => hk g (.inr hg)) a2, a3.mono fun xs u h => h.keep fun g hg => hk g (.inl hg), ad, aa, a4, fun g hg => ⟨by have := (a5 g hg).1; omega, (a5 g hg).2⟩⟩

theorem HR.anti {Pr' : Nat → Prop} {H : Hp} (h : HR w Pr' ρ H) (hsub : ∀ k, Pr k → Pr' k) : HR w Pr ρ H := by
  refine ⟨h.len, fun r row hr => ?_, h.apart, h.ll.more fun k _ hk => hsub k hk⟩
  obtain ⟨v, hv, us, h1, h2, h3⟩ := h.row r row hr
  exact ⟨v, hv, us, h1, h2, fun g hg hp => h3 g hg (hsub g hp)⟩

theorem HR.pushNone {w1 : World} {Pr' : Nat → Prop} {H : Hp} {v : Value} (hH : HR w1 Pr ρ H) (hs : ∀ k, k < w1.heap.size → w.heap[k]? = w1.heap[k]?) (hpr : ∀ k, k < w1.heap.size → Pr' k → Pr k) : HR w Pr' (ρ ++ [v]) (H ++ [none]) := by
  have key : ∀ {r : Nat} {row : Row}, (H ++ [none])[r]? = some (some row) → r < H.length ∧ H[r]? = some (some row) := by
    intro r row h
    rcases Nat.lt_trichotomy r H.length with h1 | h1 | h1
    · rw [List.getElem?_append_left h1] at h
      exact ⟨h1, h⟩
    · subst h1
      simp at h
    · rw [List.getElem?_eq_none (by simp; omega)] at h
      cases h
  have keyr : ∀ {r : Nat} {row : Row}, rowAt (H ++ [none]) r = some row → r < H.length ∧ rowAt H r = some row := by
    intro r row h
    obtain ⟨h1, h2⟩ := rowAt_no h
    obtain ⟨h3, h4⟩ := key h2
    exact ⟨h3, rowAt_of h4 h1⟩
  have oldv : ∀ {r : Nat} {u : Value}, r < H.length → (ρ ++ [v])[r]? = some u → ρ[r]? = some u := by
    intro r u h1 h2
    rw [List.getElem?_append_left (by rw [hH.len]; exact h1)] at h2
    exact h2
  refine ⟨by simp [hH.len], fun r row h => ?_, fun r r' row row' v1 v2 g hne h1 h2 h3 h4 h5 => ?_, (hH.ll.more hpr).step (size_same hs) (fun g hg _ => hs g hg) (fun r row h => ?_) (fun r p h => ?_) fun r row v1 g h1 h2 h3 => ?_⟩
  · obtain ⟨hr, h1⟩ := keyr h
    obtain ⟨u, hu, us, e1, e2, e3⟩ := hH.row r row h1
    exact ⟨u, getElem?_push_old hu, us, ownsRow_keep (fun g hg => hs g (e1.lt g hg).2) e1, e2, fun g hg hp => e3 g hg (hpr g (e1.lt g hg).2 hp)⟩
  · obtain ⟨a1, a2⟩ := keyr h1
    obtain ⟨b1, b2⟩ := keyr h2
    exact hH.apart r r' row row' v1 v2 g hne a2 b2 (oldv a1 h3) (oldv b1 h4) h5
  · obtain ⟨h1, h2⟩ := llAt_is2 h
    obtain ⟨h3, h4⟩ := key h2
    exact ⟨llAt_of h4 h1, List.getElem?_append_left (by rw [hH.len]; exact h3)⟩
  · obtain ⟨e, h2⟩ := alAt_at h
    obtain ⟨h3, h4⟩ := key h2
    exact ⟨alAt_of h4, List.getElem?_append_left (by rw [hH.len]; exact h3)⟩
  · obtain ⟨a1, a2⟩ := keyr h1
    exact .inr ⟨r, row, v1, a2, oldv a1 h2, h3⟩

theorem own_one {H : Hp} {r : Nat} {row : Row} {v : Value} (hH : HR w Pr ρ H) (hr : rowAt H r = some row) (hv : ρ[r]? = some v) : v.oneCell' = true ∧ v.cells = #[v] := by
  obtain ⟨u, hu, us, h1, _⟩ := hH.row r row hr
  rw [hv] at hu
  cases hu
  exact makerow_one h1

/-- One of its slices is another row now. -/
theorem mstore_run (hT : TOK P T) {o : Oper} {t e0 r e i j g : Nat} {x y : Operand} {π : List (Option Nat)} {H : Hp} {row : Row} {vr : Value} (hop : o.op = .store t x y) (hsl : T.sl t = some e0) (a : Act) (hH : HR w Pr ρ H) (hx : FVR w Pr ρ cargs (.pm r e π i) (a.eval x)) (hy : ρ[j]? = some (a.eval y))
    (hj : rowAt H j = some row) (hi : i < π.length) (hr : ρ[r]? = some vr) (hg : vr.ownBlock = some g) :
    Yields P o a w fun v w' => v = undef ∧ HR w' Pr ρ H ∧ MR w' Pr ρ r e (π.set i (some j)) ∧ (∀ k, k ≠ g → w'.heap[k]? = w.heap[k]?) ∧ w'.os = w.os ∧ w'.tape = w.tape ∧ w'.output = w.output ∧ w'.heap.size = w.heap.size := by
  obtain ⟨⟨vr1, g1, b1, b2, b3⟩, vr2, g2, us, a1, a2, a3, a4, a5⟩ := hx
  rw [hr] at b1 a1
  cases b1
  cases a1
  rw [hg] at b2 a2
  cases b2
  cases a2
  have hone := own_one hH hj hy
  have hul : us.length = π.length := by rw [a4.1, Nat.mul_one]
  obtain ⟨ti, hti, htsz, _⟩ := hT.s1 t e0 hsl
  obtain ⟨w', hst, hown', hoth, hos, htape, hout, hsize⟩ := write_row (P := P) a4 hg i [a.eval y] (by simp; omega) (fun u hu => by rw [List.mem_singleton.1 hu]; exact hone.1)
  have hset : us.take i ++ [a.eval y] ++ us.drop (i + [a.eval y].length) = us.set i (a.eval y) := by
    rw [List.set_eq_take_append_cons_drop, if_pos (by omega)]
    simp
  rw [hset] at hown'
  unfold Yields
  rw [exec_eq hop]
  have hrun : (Instr.storeAt t (a.eval x) (a.eval y)).run P w = .ok () w' := by
    rw [b3]
    simp [Instr.storeAt, Instr.sureAddr, storeVar, hone.2, sizeOf, typeInfo, hti, htsz, hst]
  simp only [execOp, Sem.run_bind, hrun, Result.andThen_ok, Sem.run_pure]
  refine ⟨by trivial, hH.keepPr (fun k hk => hoth k fun h => hk (by rw [h]; exact a3)) hsize, ⟨vr, g, us.set i (a.eval y), hr, hg, a3, by rw [List.length_set]; exact hown', fun i' j' h => ?_⟩, hoth, hos, htape, hout, hsize⟩
  rw [List.getElem?_set] at h
  rw [List.getElem?_set]
  by_cases hii : i = i'
  · rw [if_pos hii] at h ⊢
    rw [if_pos (by omega)] at h ⊢
    cases h
    exact ⟨a.eval y, rfl, hy⟩
  · rw [if_neg hii] at h ⊢
    exact a5 i' j' h

/-- A row of the call's own, as it is put into a slice of slices. -/
def ownO (s : St) (x : Operand) : Option Nat := match evO s x with
  | some (.own j) => (match rowAt s.H j with
    | some _ => some j
    | none => none)
  | _ => none

theorem ownO_spec {s : St} {x : Operand} {j : Nat} (h : ownO s x = some j) : evO s x = some (.own j) ∧ ∃ row, rowAt s.H j = some row := by
  unfold ownO at h
  split at h
  · rename_i j' hj
    split at h
    · rename_i row hrow
      cases h
      exact ⟨hj, row, hrow⟩
    · cases h
  · cases h

theorem maxLen_three : 3 ≤ maxLen := by unfold maxLen; omega

theorem range3 {α : Type} (f : Nat → α) : (Array.range 3).map f = #[f 0, f 1, f 2] := by
  apply Array.ext'
  simp [List.range_succ]

theorem build3_run (hT : TOK P T) {t e e2 : Nat} (hsl : T.sl t = some e) (hsl2 : T.sl e = some e2) (ua ub uc : Value) (oa : ua.cells = #[ua]) (ob : ub.cells = #[ub]) (oc : uc.cells = #[uc]) :
    (Instr.buildSlice t 3 #[(0, ua), (1, ub), (2, uc)]).run P w = .ok (.slice (some ⟨w.heap.size, 0, none⟩) 3 3) (w.alloc (.cells #[ua, ub, uc] e)) := by
  obtain ⟨i, hi, hsz, hz, _⟩ := hT.s1 e e2 hsl2
  have hf1 : Instr.fill (fun i => some (i, 1)) ((Array.range 3).map ((Value.slice none 0 0).cells[· % (Value.slice none 0 0).cells.size]!)) [(0, ua), (1, ub), (2, uc)] = some #[ua, ub, uc] := by
    rw [range3]
    have h0 : ∀ z : Array Value, z.size = 3 → Instr.fill (fun i => some (i, 1)) z [(0, ua), (1, ub), (2, uc)] = some #[ua, ub, uc] := by
      intro z hz
      obtain ⟨l⟩ := z
      match l, hz with
      | [z0, z1, z2], _ =>
        simp [Instr.fill, oa, ob, oc]
    exact h0 _ rfl
  simp [Instr.buildSlice, run_underlying (hT.sl t e hsl), sizeOf, typeInfo, zeroValue, hi, hz, hsz, newRow, hf1]

/-- A slice of three rows. -/
theorem outer_run (hT : TOK P T) {o : Oper} {t e e2 : Nat} {parts : Array (Nat × Operand)} {xa xb xc : Operand} {ja jb jc : Nat} {H : Hp} (hop : o.op = .buildSlice t 3 parts) (hparts : parts.toList = [(0, xa), (1, xb), (2, xc)]) (hsl : T.sl t = some e) (hsl2 : T.sl e = some e2) (a : Act)
    (hH : HR w Pr ρ H) (ha : ρ[ja]? = some (a.eval xa)) (hb : ρ[jb]? = some (a.eval xb)) (hc : ρ[jc]? = some (a.eval xc)) (oa : (a.eval xa).cells = #[a.eval xa]) (ob : (a.eval xb).cells = #[a.eval xb]) (oc : (a.eval xc).cells = #[a.eval xc]) :
    Yields P o a w fun v w' => Same w w' ∧ v.ownBlock = some w.heap.size ∧ HR w' (fun k => Pr k ∨ k = w.heap.size) (ρ ++ [v]) (H ++ [none]) ∧ MR w' (fun k => Pr k ∨ k = w.heap.size) (ρ ++ [v]) H.length e [some ja, some jb, some jc] ∧ w.heap.size < w'.heap.size := by
  have hpa : parts = #[(0, xa), (1, xb), (2, xc)] := by rw [← hparts]
  have hrun := build3_run (w := w) (P := P) hT hsl hsl2 _ _ _ oa ob oc
  have hpm : parts.map (fun p => (p.1, a.eval p.2)) = #[(0, a.eval xa), (1, a.eval xb), (2, a.eval xc)] := by rw [hpa]; simp
  refine yields_value (x := Instr.buildSlice t 3 (parts.map fun p => (p.1, a.eval p.2))) (by rw [exec_eq hop]; rfl) (by rw [hpm]; exact hrun) ?_
  clear hpm hpa hparts hop
  generalize a.eval xa = ua at *
  generalize a.eval xb = ub at *
  generalize a.eval xc = uc at *
  have hsame : Same w (w.alloc (.cells #[ua, ub, uc] e)) := (Below.refl _ _).alloc (Nat.le_refl _) _
  have hrow : (w.alloc (.cells #[ua, ub, uc] e)).ownsRow 0 e 1 (.slice (some ⟨w.heap.size, 0, none⟩) 3 3) 3 [ua, ub, uc] :=
    ⟨by simp, .inr ⟨w.heap.size, 3, #[ua, ub, uc], rfl, Nat.zero_le _, heap_alloc_new w _, Nat.le_refl _, maxLen_three, by simp, by simp⟩⟩
  refine ⟨hsame, rfl, hH.pushNone hsame.block (fun k hk h => h.elim id fun e => absurd hk (by omega)), ⟨_, w.heap.size, [ua, ub, uc], by rw [← hH.len]; simp, rfl, .inr rfl, hrow, fun i' j' h => ?_⟩, (hrow.lt _ rfl).2⟩
  match i', h with
  | 0, h => cases h; exact ⟨_, rfl, getElem?_push_old ha⟩
  | 1, h => cases h; exact ⟨_, rfl, getElem?_push_old hb⟩
  | 2, h => cases h; exact ⟨_, rfl, getElem?_push_old hc⟩

end
end Go.Sm

/- Operations in turn, where there is a slice of rows. -/
namespace Go.Sm
open Go Go.RowKit

/-- What a function does that is handed a slice of rows: run as its caller's own. -/
abbrev GF := List FV → Hp → (List FV → Hp → R) → R

def GOK (P : Program) (f : Nat) (F : GF) : Prop := ∀ xs H k out, F xs H k = some out →
  ∀ (w : World) (Pr : Nat → Prop) (ρ vs : List Value) (r e : Nat) (π : List (Option Nat)) (ys' : List FV) (v : Value) (g : Nat), xs = .mv r e π :: ys' → ys'.all plF = true → (∀ k, Pr k → k < w.heap.size) → HR w Pr ρ H → AllR (FVR w Pr ρ []) xs vs →
    ρ[r]? = some v → v.ownBlock = some g → Pr g →
    Calls P f vs.toArray w fun en w' => ∃ ys H' us ρ', k ys H' = some out ∧ en = .returned (packV us) ∧ AllR (VFF ρ') ys us ∧ HR w' (fun k => Pr k ∧ k ≠ g) ρ' H' ∧ Keep (fun k => Pr k ∧ k ≠ g) w w'

def GOKs (P : Program) (G : Nat → Option GF) : Prop := ∀ f F, G f = some F → Real P f ∧ GOK P f F

/-- What is told without names. -/
def elO : AV → Option AV
  | .un => some .un
  | .fv (.el e) => some (.fv (.el e))
  | .fv .nil => some (.fv .nil)
  | _ => none

/-- One operation in turn. -/
def stepU (T : TT) (G : Nat → Option GF) (op : Op) (s : St) (M : Option Nat) (k : AV → St → Option Nat → R) : R :=
  match op with
  | .store t x y => (match evO s x, evO s y with
    | some (.pm r e π i), some (.own j) => (match M, T.sl t, rowAt s.H j with
      | some r', some _, some _ => bif Nat.beq r r' && decide (i < π.length) then k .un ⟨clean (keepM r e (π.set i (some j))) [] s.sl, s.H⟩ M else none
      | _, _, _ => none)
    | _, _ => opK T false (.store t x y) s fun av H => k av ⟨s.sl, H⟩ M)
  | .buildSlice t n parts => (match T.sl t, M with
    | some e, none => (match T.ek e with
      | none => (match T.sl e, parts.toList with
        | some _, [(0, xa), (1, xb), (2, xc)] => (match ownO s xa, ownO s xb, ownO s xc with
          | some ja, some jb, some jc => bif Nat.beq n 3 then k (.fv (.mv s.H.length e [some ja, some jb, some jc])) ⟨s.sl, s.H ++ [none]⟩ (some s.H.length) else none
          | _, _, _ => none)
        | _, _ => none)
      | some _ => opK T false (.buildSlice t n parts) s fun av H => k av ⟨s.sl, H⟩ M)
    | _, _ => opK T false (.buildSlice t n parts) s fun av H => k av ⟨s.sl, H⟩ M)
  | .call c => (match c.callee with
    | .value x => (match evO s x with
      | some (.fn f []) => (match G f with
        | some F => (match evAll s c.args.toList, M with
          | some (.mv r e π :: ys), some r' => bif Nat.beq r r' && ys.all plF then F (.mv r e π :: ys) s.H fun vs H' => bif vs.all plF then k (packed vs) ⟨clean elO [] s.sl, H'⟩ none else none else none
          | _, _ => none)
        | none => opK T false (.call c) s fun av H => k av ⟨s.sl, H⟩ M)
      | _ => opK T false (.call c) s fun av H => k av ⟨s.sl, H⟩ M)
    | _ => opK T false (.call c) s fun av H => k av ⟨s.sl, H⟩ M)
  | op => opK T false op s fun av H => k av ⟨s.sl, H⟩ M

def opsU (T : TT) (G : Nat → Option GF) (nt : Nat) (all : List Oper) : List Oper → St → Option Nat → (St → Option Nat → R) → R
  | [], s, M, k => k s M
  | o :: os, s, M, k => bif dstOk nt o.dst then guardK all o.guard s (fun s => stepU T G o.op s M fun av s2 M2 => opsU T G nt all os (putS s2 o.dst av s2.H) M2 k) (fun s => opsU T G nt all os (putS s o.dst .un s.H) M k)
    else none

/-- How a run stands to the machine where there may be a slice of rows. -/
def SRu (Pr : Nat → Prop) (w0 : World) (cargs : List Value) (nt : Nat) (M : Option Nat) (s : St) (a : Act) (w : World) (ρ : List Value) : Prop :=
  ∃ (Pr' : Nat → Prop) (w1 : World), (∀ k, Pr k → Pr' k) ∧ (∀ k, Pr' k → k < w1.heap.size) ∧ Keep Pr w0 w1 ∧ SR Pr' w1 cargs nt s a w ρ ∧ ∀ r, M = some r → ∃ v g, ρ[r]? = some v ∧ v.ownBlock = some g ∧ Pr' g ∧ ¬ Pr g

section
variable {P : Program} {T : TT} {G : Nat → Option GF} {Pr : Nat → Prop} {w0 : World} {cargs : List Value} {nt : Nat}

theorem evO_ok {s : St} {a : Act} {w : World} {ρ : List Value} (hs : SR Pr w0 cargs nt s a w ρ) {x : Operand} {v : FV} (h : evO s x = some v) : FVR w Pr ρ cargs v (a.eval x) := by
  cases x with
  | tmp t =>
    unfold evO at h
    dsimp only at h
    split at h
    · rename_i u hu
      cases h
      exact hs.slots t _ hu
    · cases h
  | const c => exact constO_ok h w Pr ρ cargs
  | global g => cases h
  | func f => cases h; exact ⟨[], rfl, trivial⟩

theorem evAll_ok {s : St} {a : Act} {w : World} {ρ : List Value} (hs : SR Pr w0 cargs nt s a w ρ) {xs : List Operand} {vs : List FV} (h : evAll s xs = some vs) : AllR (FVR w Pr ρ cargs) vs (xs.map a.eval) :=
  evAll_mem h fun _ _ _ hv => evO_ok hs hv

theorem step_ord (hT : TOK P T) {o : Oper} {op : Op} {s : St} {M : Option Nat} {k : AV → St → Option Nat → R} {out : Out} (hop : o.op = op) (h : opK T false op s (fun av H => k av ⟨s.sl, H⟩ M) = some out) (hd : dstOk nt o.dst = true)
    {a : Act} {w : World} {ρ : List Value} (hs : SRu Pr w0 cargs nt M s a w ρ) : Yields P o a w fun v w' => ∃ av s2 M2 ρ', k av s2 M2 = some out ∧ SRu Pr w0 cargs nt M2 (putS s2 o.dst av s2.H) (a.put o.dst v) w' ρ' := by
  obtain ⟨av, H', hk, hdoes⟩ := opK_does hT (o := o) (by rw [hop]; exact h)
  obtain ⟨Pr', w1, h1, h2, h3, h4, h5⟩ := hs
  refine (hdoes a w Pr' ρ cargs (h4.lt h2) h4.heap (Opd.of_slots fun t _ v hv => h4.slots t v hv)).mono fun v w' ⟨ρ', hr, hv, hH, hkeep⟩ => ⟨av, ⟨s.sl, H'⟩, M, ρ', hk, Pr', w1, h1, h2, h3, ?_, fun r hr' => ?_⟩
  · have := h4.put hd hr hv hH hkeep
    cases hdst : o.dst <;> rw [hdst] at this <;> exact this
  · obtain ⟨v', g, b1, b2⟩ := h5 r hr'
    exact ⟨v', g, hr _ _ b1, b2⟩

theorem put_same {s : St} {d : Option Nat} {av : AV} : putS s d av s.H = putS ⟨s.sl, s.H⟩ d av s.H := rfl

theorem step_store (hT : TOK P T) {o : Oper} {t r e i j e0 : Nat} {π : List (Option Nat)} {x y : Operand} {row : Row} {s : St} (hop : o.op = .store t x y) (hx : evO s x = some (.pm r e π i)) (hy : evO s y = some (.own j)) (hsl : T.sl t = some e0) (hj : rowAt s.H j = some row) (hi : i < π.length)
    {a : Act} {w : World} {ρ : List Value} (hs : SRu Pr w0 cargs nt (some r) s a w ρ) (hd : dstOk nt o.dst = true) : Yields P o a w fun v w' => ∃ ρ', (∀ (r : Nat) (u : Value), ρ[r]? = some u → ρ'[r]? = some u) ∧ SRu Pr w0 cargs nt (some r) (putS ⟨clean (keepM r e (π.set i (some j))) [] s.sl, s.H⟩ o.dst .un s.H) (a.put o.dst v) w' ρ' := by
  obtain ⟨Pr', w1, h1, h2, h3, h4, h5⟩ := hs
  obtain ⟨vr, g, b1, b2, b3, b4⟩ := h5 r rfl
  refine (mstore_run hT hop hsl a h4.heap (evO_ok h4 hx) (evO_ok h4 hy) hj hi b1 b2).mono fun v w' ⟨c1, c2, c3, c4, c5, c6, c7, c8⟩ => ⟨ρ, fun _ _ h => h, Pr', w', h1, fun k hk => by rw [c8]; exact h4.lt h2 k hk, ?_, ?_, fun r' hr' => by cases hr'; exact ⟨vr, g, b1, b2, b3, b4⟩⟩
  · exact (h3.trans (h4.keep.mono h1)).trans ⟨c5, c6, c7, by rw [c8]; exact Nat.le_refl _, fun k hk => c4 k fun e => b4 (e ▸ hk)⟩
  · have base : SR Pr' w' cargs nt ⟨clean (keepM r e (π.set i (some j))) [] s.sl, s.H⟩ a w' ρ := by
      refine ⟨h4.size, h4.defers, fun u v' hv => ?_, c2, Keep.refl _ _⟩
      obtain ⟨_, v0, d1, d2⟩ := clean_lk hv
      obtain ⟨e1, e2, e3, e4⟩ := keepM_spec d2
      exact VFA.to e2 (e3 _ _ (VFA.of e1 (h4.slots u v0 d1))) (e4 _ _ _ c3)
    exact base.put hd (fun _ _ h => h) (by rw [c1]; rfl) c2 (Keep.refl _ _)

theorem step_outer (hT : TOK P T) {o : Oper} {t e e2 : Nat} {parts : Array (Nat × Operand)} {xa xb xc : Operand} {ja jb jc : Nat} {s : St} (hop : o.op = .buildSlice t 3 parts) (hparts : parts.toList = [(0, xa), (1, xb), (2, xc)]) (hsl : T.sl t = some e) (hsl2 : T.sl e = some e2)
    (ha : ownO s xa = some ja) (hb : ownO s xb = some jb) (hc : ownO s xc = some jc) {a : Act} {w : World} {ρ : List Value} (hs : SRu Pr w0 cargs nt none s a w ρ) (hd : dstOk nt o.dst = true) :
    Yields P o a w fun v w' => ∃ ρ', (∀ (r : Nat) (u : Value), ρ[r]? = some u → ρ'[r]? = some u) ∧ SRu Pr w0 cargs nt (some s.H.length) (putS ⟨s.sl, s.H ++ [none]⟩ o.dst (.fv (.mv s.H.length e [some ja, some jb, some jc])) (s.H ++ [none])) (a.put o.dst v) w' ρ' := by
  obtain ⟨Pr', w1, h1, h2, h3, h4, h5⟩ := hs
  obtain ⟨a1, ra, a2⟩ := ownO_spec ha
  obtain ⟨b1, rb, b2⟩ := ownO_spec hb
  obtain ⟨c1, rc, c2⟩ := ownO_spec hc
  have va : ρ[ja]? = some (a.eval xa) := evO_ok h4 a1
  have vb : ρ[jb]? = some (a.eval xb) := evO_ok h4 b1
  have vc : ρ[jc]? = some (a.eval xc) := evO_ok h4 c1
  have hlen := h4.heap.len
  refine (outer_run hT hop hparts hsl hsl2 a h4.heap va vb vc (own_one h4.heap a2 va).2 (own_one h4.heap b2 vb).2 (own_one h4.heap c2 vc).2).mono fun v w' ⟨d1, d2, d3, d4, d5⟩ => ⟨ρ ++ [v], fun _ _ h => getElem?_push_old h, fun k => Pr' k ∨ k = w.heap.size, w', fun k hk => .inl (h1 k hk), fun k hk => ?_, ?_, ?_, fun r hr => ?_⟩
  · rcases hk with hk | hk
    · exact Nat.lt_of_lt_of_le (h4.lt h2 k hk) d1.size
    · rw [hk]; exact d5
  · exact (h3.trans (h4.keep.mono h1)).trans (Keep.of_below d1 fun k hk => h4.lt h2 k (h1 k hk))
  · have base : SR (fun k => Pr' k ∨ k = w.heap.size) w' cargs nt ⟨s.sl, s.H ++ [none]⟩ a w' (ρ ++ [v]) :=
      ⟨h4.size, h4.defers, fun u v' hv => ((h4.slots u v' hv).keep (fun k hk => d1.block k (h4.lt h2 k hk)) fun _ _ h => getElem?_push_old h).mono fun _ h => .inl h, d3, Keep.refl _ _⟩
    refine base.put hd (fun _ _ h => h) ?_ d3 (Keep.refl _ _)
    exact ⟨by rw [← hlen]; simp, d4⟩
  · cases hr
    exact ⟨v, w.heap.size, by rw [← hlen]; simp, d2, .inr rfl, fun hp => Nat.lt_irrefl _ (h4.lt h2 _ (h1 _ hp))⟩

theorem step_call (hG : GOKs P G) {o : Oper} {x : Operand} {args : Array Operand} {ts : Array TypeId} {f r e : Nat} {π : List (Option Nat)} {ys : List FV} {F : GF} {s : St} {k : List FV → Hp → R} {out : Out} (hop : o.op = .call { callee := .value x, args := args, argTypes := ts }) (hx : evO s x = some (.fn f [])) (hF : G f = some F)
    (hxs : evAll s args.toList = some (.mv r e π :: ys)) (hpl : ys.all plF = true) (h : F (.mv r e π :: ys) s.H k = some out) {a : Act} {w : World} {ρ : List Value} (hs : SRu Pr w0 cargs nt (some r) s a w ρ) (hd : dstOk nt o.dst = true) :
    Yields P o a w fun v w' => ∃ vs H' ρ', k vs H' = some out ∧ (vs.all plF = true → SRu Pr w0 cargs nt none (putS ⟨clean elO [] s.sl, H'⟩ o.dst (packed vs) H') (a.put o.dst v) w' ρ') := by
  obtain ⟨hreal, hok⟩ := hG f F hF
  have hc := hok _ _ _ _ h
  obtain ⟨Pr', w1, h1, h2, h3, h4, h5⟩ := hs
  obtain ⟨vr, g, b1, b2, b3, b4⟩ := h5 r rfl
  obtain ⟨cs, hcs, hcaps⟩ := evO_ok h4 hx
  have hcs0 : cs = [] := by
    cases cs with
    | nil => rfl
    | cons c cs => exact hcaps.elim
  subst hcs0
  have hargs := evAll_ok h4 hxs
  have hargs0 : AllR (FVR w Pr' ρ []) (.mv r e π :: ys) (args.toList.map a.eval) := by
    cases hl : args.toList.map a.eval with
    | nil => rw [hl] at hargs; exact hargs.elim
    | cons u us =>
      rw [hl] at hargs
      refine ⟨hargs.1, ?_⟩
      have : ∀ (l : List FV) (us : List Value), l.all plF = true → AllR (FVR w Pr' ρ cargs) l us → AllR (FVR w Pr' ρ []) l us := by
        intro l
        induction l with
        | nil => intro us _ h; cases us with
          | nil => trivial
          | cons _ _ => exact h.elim
        | cons x l ih => intro us hp h; cases us with
          | nil => exact h.elim
          | cons u us =>
            rw [List.all_cons, Bool.and_eq_true] at hp
            exact ⟨VFF.to (plF_vf hp.1) (VFF.of (plF_vf hp.1) h.1) (plF_mat hp.1), ih us hp.2 h.2⟩
      exact this ys us hpl hargs.2
  refine yields_call hop hcs hreal ?_
  rw [List.append_nil]
  refine (hc w Pr' ρ _ r e π ys vr g rfl hpl (h4.lt h2) h4.heap hargs0 b1 b2 b3).mono ?_
  rintro en w' ⟨vs, H', us, ρ', hk, rfl, hus, hH, hkeep⟩
  refine ⟨packV us, rfl, vs, H', ρ', hk, fun hvs => ⟨fun k => Pr' k ∧ k ≠ g, w', fun k hk => ⟨h1 k hk, fun e => b4 (e ▸ hk)⟩, fun k hk => Nat.lt_of_lt_of_le (h4.lt h2 k hk.1) hkeep.size, ?_, ?_, fun r hr => by cases hr⟩⟩
  · exact (h3.trans (h4.keep.mono h1)).trans (hkeep.mono fun k hk => ⟨h1 k hk, fun e => b4 (e ▸ hk)⟩)
  · have base : SR (fun k => Pr' k ∧ k ≠ g) w' cargs nt ⟨clean elO [] s.sl, H'⟩ a w' ρ' := by
      refine ⟨h4.size, h4.defers, fun u v' hv => ?_, hH, Keep.refl _ _⟩
      obtain ⟨_, v0, d1, d2⟩ := clean_lk hv
      have := h4.slots u v0 d1
      unfold elO at d2
      split at d2 <;> cases d2
      · exact this
      · exact this
      · exact this
    exact base.put hd (fun _ _ h => h) (packed_ok (VFFs.to hvs hus)) hH (Keep.refl _ _)

/-- **ONE OPERATION IN TURN.** -/
theorem stepU_ok (hT : TOK P T) (hG : GOKs P G) {o : Oper} {s : St} {M : Option Nat} {k : AV → St → Option Nat → R} {out : Out} (h : stepU T G o.op s M k = some out) (hd : dstOk nt o.dst = true)
    {a : Act} {w : World} {ρ : List Value} (hs : SRu Pr w0 cargs nt M s a w ρ) : Yields P o a w fun v w' => ∃ av s2 M2 ρ', k av s2 M2 = some out ∧ SRu Pr w0 cargs nt M2 (putS s2 o.dst av s2.H) (a.put o.dst v) w' ρ' := by
  unfold stepU at h
  split at h
  · rename_i t x y hop
    split at h
    · rename_i r e π i j hx hy
      split at h
      · rename_i r' e0 row hsl hj
        cases hb : (Nat.beq r r' && decide (i < π.length)) with
        | false => rw [hb] at h; cases h
        | true =>
          rw [hb] at h
          rw [Bool.and_eq_true] at hb
          have := Nat.eq_of_beq_eq_true hb.1
          subst this
          exact (step_store hT hop hx hy hsl hj (of_decide_eq_true hb.2) hs hd).mono fun v w' ⟨ρ', h1, h2⟩ => ⟨_, _, _, ρ', h, h2⟩
      · cases h
    · exact step_ord hT hop h hd hs
  · rename_i t n parts hop
    split at h
    · rename_i e hsl
      split at h
      · split at h
        · rename_i e2 xa xb xc hsl2 hparts
          split at h
          · rename_i ja jb jc ha hb hc
            cases hn : Nat.beq n 3 with
            | false => rw [hn] at h; cases h
            | true =>
              rw [hn] at h
              have := Nat.eq_of_beq_eq_true hn
              subst this
              exact (step_outer hT hop hparts hsl hsl2 ha hb hc hs hd).mono fun v w' ⟨ρ', h1, h2⟩ => ⟨_, _, _, ρ', h, h2⟩
          · cases h
        · cases h
      · exact step_ord hT hop h hd hs
    · exact step_ord hT hop h hd hs
  · rename_i c hop
    obtain ⟨callee, args, ts⟩ := c
    dsimp only at h
    split at h
    · rename_i x hcal
      split at h
      · rename_i f hx
        split at h
        · rename_i F hF
          split at h
          · rename_i r e π ys r' hxs
            cases hb : (Nat.beq r r' && ys.all plF) with
            | false => rw [hb] at h; cases h
            | true =>
              rw [hb] at h
              rw [Bool.and_eq_true] at hb
              have := Nat.eq_of_beq_eq_true hb.1
              subst this
              simp only [cond_true] at h
              refine (step_call hG hop hx hF hxs hb.2 h hs hd).mono fun v w' ⟨vs, H', ρ', hk, hy⟩ => ?_
              cases hvs : vs.all plF with
              | false => rw [hvs] at hk; cases hk
              | true =>
                rw [hvs] at hk
                exact ⟨_, _, _, ρ', hk, hy hvs⟩
          · cases h
        · exact step_ord hT hop h hd hs
      · exact step_ord hT hop h hd hs
    · exact step_ord hT hop h hd hs
  · exact step_ord hT rfl h hd hs

theorem SRu.guard {all : List Oper} {g : Option (Nat × Bool)} {s s1 : St} {b : Bool} {M : Option Nat} {a : Act} {w : World} {ρ : List Value} (h : SRu Pr w0 cargs nt M s a w ρ) (hg : Guard all g s b s1) : SRu Pr w0 cargs nt M s1 a w ρ := by
  obtain ⟨Pr', w1, h1, h2, h3, h4, h5⟩ := h
  exact ⟨Pr', w1, h1, h2, h3, h4.guard hg, h5⟩

theorem SRu.wanted {all : Array Oper} {o : Oper} {s s1 : St} {b : Bool} {M : Option Nat} {a : Act} {w : World} {ρ : List Value} (h : SRu Pr w0 cargs nt M s a w ρ) (hg : Guard all.toList o.guard s b s1) : Region.wanted o (yielded all a.tmps) = b := by
  obtain ⟨Pr', w1, h1, h2, h3, h4, h5⟩ := h
  exact hg.wanted (w := w) (Pr := Pr') (ρ := ρ) (cargs := cargs) fun d _ v hv => h4.slots d v hv

theorem SRu.putUn {s : St} {M : Option Nat} {a : Act} {w : World} {ρ : List Value} {d : Option Nat} (h : SRu Pr w0 cargs nt M s a w ρ) (hd : dstOk nt d = true) : SRu Pr w0 cargs nt M (putS s d .un s.H) (a.put d undef) w ρ := by
  obtain ⟨Pr', w1, h1, h2, h3, h4, h5⟩ := h
  exact ⟨Pr', w1, h1, h2, h3, h4.put hd (fun _ _ h => h) rfl h4.heap (Keep.refl _ _), h5⟩

/-- **A REGION IN THE ORDER OF ITS TEXT.** -/
theorem opsU_ok (hT : TOK P T) (hG : GOKs P G) {ops : Array Oper} {Q : Exit → Act → World → Prop} {out : Out} {k : St → Option Nat → R} : ∀ (os : List Oper) (s : St) (M : Option Nat) (a : Act) (w : World) (ρ : List Value),
    opsU T G nt ops.toList os s M k = some out → SRu Pr w0 cargs nt M s a w ρ → (∀ s' M' a' w' ρ', k s' M' = some out → SRu Pr w0 cargs nt M' s' a' w' ρ' → Q .normal a' w') → wpList P ops Q os a w
  | [], s, M, a, w, ρ, h, hs, hQ => hQ s M a w ρ h hs
  | o :: os, s, M, a, w, ρ, h, hs, hQ => by
    unfold opsU at h
    cases hd : dstOk nt o.dst with
    | false => rw [hd] at h; cases h
    | true =>
      rw [hd] at h
      simp only [cond_true] at h
      obtain ⟨b, s1, hg, h1⟩ := guardK_ok h
      have hw := hs.wanted hg
      have hs1 := hs.guard hg
      unfold wpList
      rw [hw]
      cases b with
      | false =>
        simp only [Bool.false_eq_true, if_false] at h1 ⊢
        exact opsU_ok hT hG os _ _ _ w ρ h1 (hs1.putUn hd) hQ
      | true =>
        simp only [if_true] at h1 ⊢
        refine .inl ((stepU_ok hT hG h1 hd hs1).wp ?_)
        rintro v w' ⟨av, s2, M2, ρ', hk, hs2⟩
        exact opsU_ok hT hG os _ _ _ w' ρ' hk hs2 hQ

/-- **THOSE THAT COME IN TURN, IN A DRAWN REGION.** -/
theorem turnU_ok (hT : TOK P T) (hG : GOKs P G) {ops : Array Oper} {p q : Nat} (hdraw : drawOk ops = true) (hbeh : ∀ (i : Nat) (o : Oper), ops.toList[i]? = some o → p ≤ i → ∀ j, j < i → j < q → Anc ops.toList j i) (hq : q ≤ ops.size) {Q : Exit → Act → World → Prop} {out : Out} {k : St → Option Nat → R} : ∀ (os : List Oper) (i : Nat) (s : St) (M : Option Nat) (listed : Array Bool) (a : Act) (w : World) (ρ : List Value),
    (ops.toList.take q).drop i = os → p ≤ i → i + os.length = q → listed.size = ops.size → (∀ j, j < ops.size → (listed.getD j true = true ↔ j < i)) → opsU T G nt ops.toList os s M k = some out → SRu Pr w0 cargs nt M s a w ρ →
    (∀ s' M' listed' a' w' ρ', k s' M' = some out → SRu Pr w0 cargs nt M' s' a' w' ρ' → listed'.size = ops.size → (∀ j, j < ops.size → (listed'.getD j true = true ↔ j < q)) → wpAny P .any ops Q (ops.size - q) listed' a' w') → wpAny P .any ops Q (os.length + (ops.size - q)) listed a w
  | [], i, s, M, listed, a, w, ρ, hd, hpi, hil, hsz, hl, h, hs, hQ => by
    rw [List.length_nil, Nat.zero_add]
    have : i = q := by simpa using hil
    subst this
    exact hQ s M listed a w ρ h hs hsz hl
  | o :: os, i, s, M, listed, a, w, ρ, hd, hpi, hil, hsz, hl, h, hs, hQ => by
    have hiq : i < q := by simp at hil; omega
    have hlen : i < ops.size := by omega
    have ho : ops.toList[i]? = some o := by
      have := congrArg (·[0]?) hd
      simp only [List.getElem?_drop, List.getElem?_cons_zero, Nat.add_zero] at this
      rw [List.getElem?_take, if_pos hiq] at this
      exact this
    have hun : listed.getD i true = false := by
      cases hb : listed.getD i true with
      | false => rfl
      | true => have := (hl i hlen).1 hb; omega
    have hdown : ∀ (j : Nat) (o' : Oper), ops.toList[j]? = some o' → listed.getD j true = true → ∀ e ∈ o'.after, Region.binds .any e = true → listed.getD e.on true = true := by
      intro j o' hj hlj e he hb
      have h1 := (draw_spec (all := ops) (n := 0) hdraw j o' hj).1 e he hb
      have h2 := (hl j (lt_size hj)).1 hlj
      have h3 := lt_size hj
      simp only [Nat.zero_add] at h1
      exact (hl e.on (by omega)).2 (by omega)
    have hready : i ∈ Region.ready .any ops listed := by
      refine mem_ready.2 ⟨hun, o, by rw [← ho]; simp, fun e he hb => ?_⟩
      have hon := (draw_spec (all := ops) (n := 0) hdraw i o ho).1 e he hb
      simp only [Nat.zero_add] at hon
      have htrue := (hl e.on (by omega)).2 hon
      have hls : e.on < listed.size := by rw [hsz]; omega
      simp [Array.getD, hls] at htrue ⊢
      exact htrue
    rw [show (o :: os).length + (ops.size - q) = (os.length + (ops.size - q)) + 1 by simp; omega]
    refine ⟨fun hempty => ?_, fun j hj => ?_⟩
    · rw [hempty] at hready; cases hready
    · obtain ⟨h1, o', ho', hall⟩ := mem_ready.1 hj
      have ho'' : ops.toList[j]? = some o' := by rw [← ho']; simp
      have hj' : j < ops.size := lt_size ho''
      have hij : j = i := by
        rcases Nat.lt_trichotomy j i with h2 | h2 | h2
        · rw [(hl j hj').2 h2] at h1; cases h1
        · exact h2
        · have := anc_ready hdown (hbeh j o' ho'' (by omega) i h2 hiq) ho'' (fun e he hb => getD_false (hall e he hb))
          rw [hun] at this
          cases this
      subst hij
      rw [ho] at ho''
      cases ho''
      unfold opsU at h
      cases hdst : dstOk nt o.dst with
      | false => rw [hdst] at h; cases h
      | true =>
        rw [hdst] at h
        simp only [cond_true] at h
        obtain ⟨bb, s1, hg, h2⟩ := guardK_ok h
        have hw := hs.wanted hg
        have hs1 := hs.guard hg
        have hl2 : ∀ z, z < ops.size → ((listed.setIfInBounds j true).getD z true = true ↔ z < j + 1) := by
          intro z hz
          rw [getD_listed (by rw [hsz]; exact hlen)]
          by_cases e : j = z
          · subst e; simp
          · rw [if_neg e, hl z hz]; omega
        have hd2 : (ops.toList.take q).drop (j + 1) = os := by
          rw [← List.drop_drop, hd]
          rfl
        unfold wpOp
        rw [ho']
        dsimp only
        rw [hw]
        cases bb with
        | false =>
          simp only [Bool.false_eq_true, if_false] at h2 ⊢
          exact turnU_ok hT hG hdraw hbeh hq os (j + 1) _ _ _ _ w ρ hd2 (by omega) (by simp at hil; omega) (by simp [hsz]) hl2 h2 (hs1.putUn hdst) hQ
        | true =>
          simp only [if_true] at h2 ⊢
          refine .inl ((stepU_ok hT hG h2 hdst hs1).wp ?_)
          rintro v w' ⟨av, s2, M2, ρ', hk, hs2⟩
          exact turnU_ok hT hG hdraw hbeh hq os (j + 1) _ _ _ _ w' ρ' hd2 (by omega) (by simp at hil; omega) (by simp [hsz]) hl2 hk hs2 hQ

end
end Go.Sm

/- Drawn regions in which a slice of rows is made: the whole. -/
namespace Go.Sm
open Go Go.RowKit

/-- From the start of a drawn region: what is made ahead; those in turn; the rest. -/
def statM (ops : Array Oper) (nt p q : Nat) (sps : List Sp) : Bool :=
  Nat.ble p q && (Nat.ble q ops.toList.length && (behindQ p q 0 [] ops.toList && statSp ops nt p sps))

def drawnM (T : TT) (G : Nat → Option GF) (nt : Nat) (ops : Array Oper) (sps : List Sp) (p q : Nat) (s : St) (M : Option Nat) (k : St → Option Nat → R) : R :=
  bif noGhost sps && statM ops nt p q sps then
    opsK T true nt (idleM (sps.map Sp.i) 0 (ops.toList.take p)) (idleM (sps.map Sp.i) 0 (ops.toList.take p)) s fun s' => makeG T s' sps s'.sl [] fun sl rows =>
      opsU T G nt ops.toList ((ops.toList.take q).drop p) ⟨sl, s'.H ++ rows.map some⟩ M fun s2 M2 =>
        opsK T true nt (idleM (List.range q) 0 (ops.toList.take ops.toList.length)) (idleM (List.range q) 0 (ops.toList.take ops.toList.length)) s2 fun s3 => k s3 M2
  else none

section
variable {P : Program} {T : TT} {G : Nat → Option GF} {Pr : Nat → Prop} {w0 : World} {cargs : List Value} {nt : Nat}

/-- What holds on the way, once those in turn are done. -/
structure InvQ (Pr : Nat → Prop) (w1 : World) (ρ cargs : List Value) (nt : Nat) (ops : Array Oper) (q : Nat) (s : St) (avs : List AV) (listed : Array Bool) (a : Act) (w : World) : Prop where
  size : a.tmps.size = nt
  defers : a.defers = []
  same : Same w1 w
  lsize : listed.size = ops.size
  done : ∀ (j : Nat) (o : Oper) (av : AV) (u : Nat), (idleM (List.range q) 0 (ops.toList.take ops.toList.length))[j]? = some o → avs[j]? = some av → listed.getD j true = true → o.dst = some u → AVR w1 Pr ρ cargs av (a.tmps.getD u undef)
  still : ∀ (u : Nat) (v : AV), lk s.sl u = some v → (∀ (j : Nat) (o : Oper), (idleM (List.range q) 0 (ops.toList.take ops.toList.length))[j]? = some o → o.dst = some u → listed.getD j true = false) → AVR w1 Pr ρ cargs v (a.tmps.getD u undef)
  down : ∀ (j : Nat) (o : Oper), ops.toList[j]? = some o → listed.getD j true = true → ∀ e ∈ o.after, Region.binds .any e = true → listed.getD e.on true = true
  pre : ∀ j, j < q → listed.getD j true = true

theorem invQ_step {ops : Array Oper} {q : Nat} (hdraw : drawOk ops = true) {s s' : St} {avs : List AV} (hpath : Path P (idleM (List.range q) 0 (ops.toList.take ops.toList.length)) nt (idleM (List.range q) 0 (ops.toList.take ops.toList.length)) s avs s')
    {w1 : World} {ρ : List Value} (hp : ∀ k, Pr k → k < w1.heap.size) (hH : HR w1 Pr ρ s.H)
    {listed : Array Bool} {a : Act} {w : World} (hinv : InvQ Pr w1 ρ cargs nt ops q s avs listed a w) {i : Nat} (hr : i ∈ Region.ready .any ops listed) {Q : Exit → Act → World → Prop} {K : Act → World → Prop}
    (hK : ∀ a2 w2, InvQ Pr w1 ρ cargs nt ops q s avs (listed.setIfInBounds i true) a2 w2 → K a2 w2) : wpOp P ops Q i K a w := by
  obtain ⟨hun, o, ho, hall⟩ := mem_ready.1 hr
  have ho' : ops.toList[i]? = some o := by rw [← ho]; simp
  have hip : i < ops.toList.length := by have := lt_size ho'; simpa using this
  have hil' : i < listed.size := by rw [hinv.lsize]; exact lt_size ho'
  have hib : i ∉ List.range q := fun hm => by
    rw [hinv.pre i (List.mem_range.1 hm)] at hun
    cases hun
  have spec := draw_spec (all := ops) (n := 0) hdraw
  simp only [Nat.zero_add] at spec
  have hp' : ∀ k, Pr k → k < w.heap.size := fun k hk => Nat.lt_of_lt_of_le (hp k hk) hinv.same.size
  have hdown : ∀ (j : Nat) (o' : Oper), ops.toList[j]? = some o' → (listed.setIfInBounds i true).getD j true = true → ∀ e' ∈ o'.after, Region.binds .any e' = true → (listed.setIfInBounds i true).getD e'.on true = true := by
    intro j o' hj hl e' he' hb'
    rw [getD_listed hil'] at hl ⊢
    split
    · rfl
    · by_cases e2 : i = j
      · subst e2
        rw [ho'] at hj
        cases hj
        exact getD_false (hall e' he' hb')
      · rw [if_neg e2] at hl
        exact hinv.down j o' hj hl e' he' hb'
  have hpre : ∀ j, j < q → (listed.setIfInBounds i true).getD j true = true := by
    intro j hj
    rw [getD_listed hil']
    split
    · rfl
    · exact hinv.pre j hj
  have hstill : ∀ (u : Nat) (v : AV), lk s.sl u = some v → (∀ (j : Nat) (o' : Oper), (idleM (List.range q) 0 (ops.toList.take ops.toList.length))[j]? = some o' → o'.dst = some u → (listed.setIfInBounds i true).getD j true = false) → AVR w1 Pr ρ cargs v (a.tmps.getD u undef) := by
    intro u v hu hno
    refine hinv.still u v hu fun j o' hj hd => ?_
    have := hno j o' hj hd
    rw [getD_listed hil'] at this
    split at this
    · cases this
    · exact this
  have hother : ∀ (j : Nat) (o' : Oper) (av' : AV) (u : Nat), j ≠ i → (idleM (List.range q) 0 (ops.toList.take ops.toList.length))[j]? = some o' → avs[j]? = some av' → (listed.setIfInBounds i true).getD j true = true → o'.dst = some u → AVR w1 Pr ρ cargs av' (a.tmps.getD u undef) := by
    intro j o' av' u hne hj ha hl hd
    rw [getD_listed hil', if_neg (Ne.symm hne)] at hl
    exact hinv.done j o' av' u hj ha hl hd
  unfold wpOp
  rw [ho]
  dsimp only
  have hoi := frontM_of hip ho' hib
  obtain ⟨av, hav⟩ : ∃ av, avs[i]? = some av := ⟨_, List.getElem?_eq_getElem (by rw [hpath.len, idleM_len, List.length_take]; omega)⟩
  obtain ⟨hdst, si, s1, hsH, hstep, hslots⟩ := hpath.at hoi hav
  have hlook : ∀ u, u ∈ o.looksAt ops → ∀ v, lk si.sl u = some v → AVR w Pr ρ cargs v (a.tmps.getD u undef) := by
    intro u hu v hv
    refine AVR.same (w := w1) ?_ hinv.same hp
    rcases hslots u v hv with ⟨j, o', h1, h2, h3, h4⟩ | ⟨h1, h2⟩
    · obtain ⟨_, h2', _⟩ := frontM_real h2 h3
      have hpr := ((spec j o' h2').2 i o h1 ho')
      rcases (pair_spec hpr).1 with ⟨e', he', hb', hon⟩ | ⟨hno, _⟩
      · refine hinv.done j o' v u h2 h4 ?_ h3
        have := hall e' he' hb'
        rw [hon] at this
        exact getD_false this
      · exact absurd hu (hno u h3)
    · refine hinv.still u v h1 fun j o' hj hd => ?_
      rcases Nat.lt_trichotomy j i with hlt' | heq | hgt
      · exact absurd hd (h2 j o' hlt' hj)
      · subst heq; exact hun
      · cases hl : listed.getD j true with
        | false => rfl
        | true =>
          obtain ⟨_, hj', _⟩ := frontM_real hj hd
          have hpr := (spec i o ho').2 j o' hgt hj'
          rcases (pair_spec hpr).1 with ⟨e', he', hb', hon⟩ | ⟨_, hno⟩
          · have := hinv.down j o' hj' hl e' he' hb'
            rw [hon, hun] at this
            cases this
          · exact absurd hu (hno u hd)
  have hnext : ∀ (v : Value) (w' : World), AVR w Pr ρ cargs av v → Same w w' → K (a.put o.dst v) w' := by
    intro v w' hv hs
    have hv1 : AVR w1 Pr ρ cargs av v := hv.back hinv.same hp
    refine hK _ _ ?_
    have hgd : ∀ (u : Nat), (a.put o.dst v).tmps.getD u undef = if o.dst = some u then v else a.tmps.getD u undef := by
      intro u
      cases hd : o.dst with
      | none => simp [Act.put]
      | some d' =>
        have hlt' : d' < a.tmps.size := by rw [hinv.size]; rw [hd] at hdst; exact of_decide_eq_true hdst
        simp only [Act.put]
        rw [getD_set _ _ _ _ hlt']
        simp
    refine ⟨?_, ?_, hinv.same.trans hs, by simp [hinv.lsize], fun j o' av' u hj ha hl hd => ?_, fun u v' hu hno => ?_, hdown, hpre⟩
    · cases o.dst <;> simp [Act.put, hinv.size]
    · cases o.dst <;> exact hinv.defers
    · rw [hgd u]
      by_cases e' : j = i
      · subst e'
        rw [hoi] at hj
        cases hj
        rw [hav] at ha
        cases ha
        rw [if_pos hd]
        exact hv1
      · obtain ⟨_, hj', _⟩ := frontM_real hj hd
        have hne : o.dst ≠ some u := by
          rcases Nat.lt_or_gt_of_ne e' with h | h
          · exact fun h2 => (pair_spec ((spec j o' hj').2 i o h ho')).2 u hd h2
          · intro h2; exact (pair_spec ((spec i o ho').2 j o' h hj')).2 u h2 hd
        rw [if_neg hne]
        exact hother j o' av' u e' hj ha hl hd
    · rw [hgd u]
      have hne : o.dst ≠ some u := by
        intro h2
        have := hno i o hoi h2
        rw [getD_listed hil', if_pos rfl] at this
        cases this
      rw [if_neg hne]
      exact hstill u v' hu hno
  have hmem : ∀ u, optIn (some u) (o.looksAt ops) = true → u ∈ o.looksAt ops := fun u h => memN_iff.1 h
  rcases hstep with ⟨hg', hq⟩ | ⟨hg', rfl⟩
  · rw [if_pos (hg'.frontM.wanted (w := w) (Pr := Pr) (ρ := ρ) (cargs := cargs) fun u hd v hv => hlook u (hmem u hd) v hv)]
    refine .inl ((hq a w Pr ρ cargs hp' ?_ (Opd.of_slots fun u hu v hv => ?_)).wp fun v w' ⟨h1, h2⟩ => hnext v w' h1 h2)
    · rw [hg'.same.2, hsH]
      exact hH.keep hinv.same.block
    · refine hlook u ?_ v (by rw [← hg'.same.1 u]; exact hv)
      unfold Oper.looksAt
      refine List.mem_append_left _ (List.mem_filterMap.2 ⟨.tmp u, by simpa using hu, rfl⟩)
  · rw [if_neg (by rw [hg'.frontM.wanted (w := w) (Pr := Pr) (ρ := ρ) (cargs := cargs) fun u hd v hv => hlook u (hmem u hd) v hv]; exact Bool.false_ne_true)]
    exact hnext undef w rfl (Same.refl w)

theorem invQ_any {ops : Array Oper} {q : Nat} (hdraw : drawOk ops = true) {s s' : St} {avs : List AV} (hpath : Path P (idleM (List.range q) 0 (ops.toList.take ops.toList.length)) nt (idleM (List.range q) 0 (ops.toList.take ops.toList.length)) s avs s')
    {w1 : World} {ρ : List Value} (hp : ∀ k, Pr k → k < w1.heap.size) (hH : HR w1 Pr ρ s.H)
    {Q : Exit → Act → World → Prop} (hQ : ∀ (listed : Array Bool) (a : Act) (w : World), InvQ Pr w1 ρ cargs nt ops q s avs listed a w → (∀ j, j < ops.size → listed.getD j true = true) → Q .normal a w) :
    ∀ (fuel : Nat) (left : List Nat) (listed : Array Bool) (a : Act) (w : World), left.length = fuel → left.Nodup → (∀ i, i ∈ left ↔ i < ops.size ∧ listed.getD i true = false) → InvQ Pr w1 ρ cargs nt ops q s avs listed a w → wpAny P .any ops Q fuel listed a w := by
  intro fuel
  induction fuel with
  | zero =>
    intro left listed a w hl hn hleft hinv
    have hnil : left = [] := List.eq_nil_of_length_eq_zero hl
    subst hnil
    have hallT : ∀ j, j < ops.size → listed.getD j true = true := by
      intro j hj
      cases hb : listed.getD j true with
      | true => rfl
      | false => exact absurd ((hleft j).2 ⟨hj, hb⟩) (by simp)
    refine ⟨?_, hQ listed a w hinv hallT⟩
    apply List.eq_nil_iff_forall_not_mem.2
    intro j hj
    obtain ⟨h1, o, ho, _⟩ := mem_ready.1 hj
    have hj' : j < ops.size := lt_size (o := o) (by rw [← ho]; simp)
    rw [hallT j hj'] at h1
    cases h1
  | succ fuel ih =>
    intro left listed a w hl hn hleft hinv
    have hex : ∃ i, i ∈ left := by
      cases left with
      | nil => simp at hl
      | cons i l => exact ⟨i, by simp⟩
    refine ⟨fun hempty => ?_, fun i hi => ?_⟩
    · exfalso
      obtain ⟨i0, hi0⟩ := hex
      have hmin : ∃ i, i ∈ left ∧ ∀ j, j < i → j ∉ left := by
        have key : ∀ n i, i ≤ n → i ∈ left → ∃ i, i ∈ left ∧ ∀ j, j < i → j ∉ left := by
          intro n
          induction n with
          | zero => intro i hi him; exact ⟨i, him, fun j hj => by omega⟩
          | succ n ihn =>
            intro i hi him
            by_cases h : ∃ j, j < i ∧ j ∈ left
            · obtain ⟨j, hj, hjm⟩ := h
              exact ihn j (by omega) hjm
            · exact ⟨i, him, fun j hj hjm => h ⟨j, hj, hjm⟩⟩
        exact key i0 i0 (Nat.le_refl _) hi0
      obtain ⟨i, him, hmini⟩ := hmin
      obtain ⟨hlt, hun⟩ := (hleft i).1 him
      obtain ⟨o, ho⟩ : ∃ o, ops[i]? = some o := ⟨_, Array.getElem?_eq_getElem hlt⟩
      have ho' : ops.toList[i]? = some o := by rw [← ho]; simp
      have hready : i ∈ Region.ready .any ops listed := by
        refine mem_ready.2 ⟨hun, o, ho, fun e he hb => ?_⟩
        have hon := (draw_spec (all := ops) (n := 0) hdraw i o ho').1 e he hb
        simp only [Nat.zero_add] at hon
        have hnl : e.on ∉ left := hmini _ hon
        have htrue : listed.getD e.on true = true := by
          cases hb2 : listed.getD e.on true with
          | true => rfl
          | false => exact absurd ((hleft _).2 ⟨by omega, hb2⟩) hnl
        have hls : e.on < listed.size := by rw [hinv.lsize]; omega
        simp [Array.getD, hls] at htrue ⊢
        exact htrue
      rw [hempty] at hready
      cases hready
    · obtain ⟨h1, o, ho, hall⟩ := mem_ready.1 hi
      have ho' : ops.toList[i]? = some o := by rw [← ho]; simp
      have hlt := lt_size ho'
      have him : i ∈ left := (hleft i).2 ⟨hlt, h1⟩
      refine invQ_step hdraw hpath hp hH hinv hi fun a2 w2 hinv' => ih (left.erase i) _ a2 w2 ?_ (hn.erase i) (fun j => ?_) hinv'
      · rw [List.length_erase_of_mem him, hl]; rfl
      · rw [hn.mem_erase_iff, hleft j, getD_listed (by rw [hinv.lsize]; exact hlt)]
        constructor
        · rintro ⟨hne, h2, h3⟩; exact ⟨h2, by rw [if_neg (Ne.symm hne)]; exact h3⟩
        · rintro ⟨h2, h3⟩
          split at h3
          · cases h3
          · rename_i e; exact ⟨Ne.symm e, h2, h3⟩

/-- **THE REST OF A DRAWN REGION.** -/
theorem tail_ok (hT : TOK P T) {ops : Array Oper} {q : Nat} (hdraw : drawOk ops = true) (hq : q ≤ ops.size) {Q : Exit → Act → World → Prop} {out : Out} {k : St → R} {s : St} {M : Option Nat} {listed : Array Bool} {a : Act} {w : World} {ρ : List Value}
    (h : opsK T true nt (idleM (List.range q) 0 (ops.toList.take ops.toList.length)) (idleM (List.range q) 0 (ops.toList.take ops.toList.length)) s k = some out) (hs : SRu Pr w0 cargs nt M s a w ρ) (hsz : listed.size = ops.size) (hl : ∀ j, j < ops.size → (listed.getD j true = true ↔ j < q))
    (hQ : ∀ s' a' w' ρ', k s' = some out → SRu Pr w0 cargs nt M s' a' w' ρ' → Q .normal a' w') : wpAny P .any ops Q (ops.size - q) listed a w := by
  obtain ⟨avs, s', hpath, hk⟩ := opsK_path hT _ _ h
  obtain ⟨Pr', w1, h1, h2, h3, h4, h5⟩ := hs
  refine invQ_any (cargs := cargs) (Pr := Pr') hdraw hpath (h4.lt h2) h4.heap (fun listed2 a2 w2 hinv hall => ?_) (ops.size - q) (List.range' q (ops.size - q)) listed a w (by simp) List.nodup_range' (fun i => ?_)
    ⟨h4.size, h4.defers, Same.refl _, hsz, fun j o av u hj ha hlj hd => ?_, fun u v hv _ => h4.slots u v hv, fun j o hj hlj e he hb => ?_, fun j hj => (hl j (by omega)).2 hj⟩
  · refine hQ s' a2 w2 ρ hk ⟨Pr', w1, h1, h2, h3, ⟨hinv.size, hinv.defers, fun u v hv => ?_, by rw [hpath.heap]; exact h4.heap.keep hinv.same.block, h4.keep.trans (Keep.of_below hinv.same (h4.lt h2))⟩, h5⟩
    have : AVR w Pr' ρ cargs v (a2.tmps.getD u undef) := by
      rcases hpath.final hv with ⟨j, o, f1, f2, f3⟩ | ⟨f1, f2⟩
      · exact hinv.done j o v u f1 f3 (hall j (lt_size (frontM_real f1 f2).2.1)) f2
      · exact hinv.still u v f1 fun j o hj hd => absurd hd (f2 j o hj)
    exact this.keep (fun k hk => hinv.same.block k (h4.lt h2 k hk)) fun _ _ h => h
  · rw [List.mem_range'_1]
    constructor
    · rintro ⟨a1, a2⟩
      refine ⟨by omega, ?_⟩
      cases hb : listed.getD i true with
      | false => rfl
      | true => have := (hl i (by omega)).1 hb; omega
    · rintro ⟨a1, a2⟩
      refine ⟨Nat.not_lt.1 fun hlt => ?_, by omega⟩
      rw [(hl i a1).2 hlt] at a2
      cases a2
  · obtain ⟨_, hj', hne⟩ := frontM_real hj hd
    exact absurd (List.mem_range.2 ((hl j (lt_size hj')).1 hlj)) hne
  · have g1 := (draw_spec (all := ops) (n := 0) hdraw j o hj).1 e he hb
    have g2 := (hl j (lt_size hj)).1 hlj
    have g3 := lt_size hj
    simp only [Nat.zero_add] at g1
    exact (hl e.on (by omega)).2 (by omega)

/-- The operations ahead of those in turn, with what is made there. -/
theorem frontG_ok (hT : TOK P T) (hp : ∀ k, Pr k → k < w0.heap.size) {ops : Array Oper} {p : Nat} {sps : List Sp} (hst : StatG ops nt p sps) (hng : noGhost sps = true) {Q : Exit → Act → World → Prop} {out : Out} {kk : Hp → List (Nat × AV) → List Row → R} {id : Nat} {s : St} {a : Act} {w : World} {ρ : List Value}
    (h : opsK T true nt (idleM (sps.map Sp.i) 0 (ops.toList.take p)) (idleM (sps.map Sp.i) 0 (ops.toList.take p)) s (fun s' => makeG T s' sps s'.sl [] fun sl rows => kk s'.H sl rows) = some out) (hs : SR Pr w0 cargs nt s a w ρ)
    (hQ : ∀ H' sl rows vs listed a2 w2, kk H' sl rows = some out → SR Pr w0 cargs nt ⟨sl, H' ++ rows.map some⟩ a2 w2 (ρ ++ vs) → listed.size = ops.size → (∀ j, j < ops.size → (listed.getD j true = true ↔ j < p)) → wpAny P .any ops Q (ops.toList.drop p).length listed a2 w2) : (Code.region id ops true).wp P Q a w := by
  have hsame : Same w { w with drawn := w.drawn + 1 } := Same.drew w
  have hpw : ∀ k, Pr k → k < ({ w with drawn := w.drawn + 1 } : World).heap.size := hs.lt hp
  have hH : HR ({ w with drawn := w.drawn + 1 } : World) Pr ρ s.H := hs.heap.keep hsame.block
  refine wp_region_any hT.mo ?_
  obtain ⟨avs, s', hpath, hk⟩ := opsK_path hT _ _ h
  have hHl : s'.H = s.H := hpath.heap
  have hlenρ : ρ.length = s'.H.length := by rw [hHl]; exact hH.len
  have hpl : p ≤ ops.size := by simpa using hst.pl
  have hdl : (ops.toList.drop p).length = ops.size - p := by simp
  have hfalse : ∀ (j : Nat), (Array.replicate ops.size false).getD j true = true → j < ops.size → False := by
    intro j h1 h2
    simp [Array.getD, h2] at h1
  have start : InvG T Pr ({ w with drawn := w.drawn + 1 } : World) ρ cargs nt ops p sps s s' avs (Array.replicate ops.size false) a { w with drawn := w.drawn + 1 } := by
    have hspl : ∀ sp ∈ sps, sp.i < ops.size := fun sp hsp => by
      obtain ⟨_, _, o, h1, _⟩ := hst.sop sp hsp
      exact lt_size h1
    exact ⟨hs.size, hs.defers, Same.refl _, by simp, fun j o av u hj ha hl hd => (hfalse j hl (lt_size (frontM_real hj hd).2.1)).elim, fun u v hv _ _ => (hs.slots u v hv).same hsame (hs.lt hp), fun j o hj hl => (hfalse j hl (lt_size hj)).elim, fun sp hsp hl => (hfalse _ hl (hspl sp hsp)).elim, fun sp hsp sp' _ _ hl => (hfalse _ hl (hspl sp hsp)).elim, fun i _ h2 => by simp [Array.getD, h2]⟩
  have all0 : ∀ i, i ∈ List.range p ↔ i < p ∧ (Array.replicate ops.size false).getD i true = false := by
    intro i
    rw [List.mem_range]
    constructor
    · intro hi
      have : i < ops.size := by omega
      exact ⟨hi, by simp [Array.getD, this]⟩
    · exact fun h => h.1
  have main := invG_any (cargs := cargs) (Q := Q) hT hst hpath (makeG_pre hk) hpw hH (fun listed a2 w2 hinv hlist => ?_) p (List.range p) _ a _ (by simp) List.nodup_range all0 start
  · rwa [show p + (ops.toList.drop p).length = ops.size by rw [hdl]; omega] at main
  · have hl : ∀ m ∈ sps, listed.getD m.i true = true := fun m hm => by
      obtain ⟨h1, _, o, h2, _⟩ := hst.sop m hm
      exact (hlist m.i (lt_size h2)).2 h1
    have hng' : ∀ g, ({ w with drawn := w.drawn + 1 } : World).heap.size ≤ g → ¬ Pr g := fun g hg hpr => absurd (hpw g hpr) (Nat.not_lt.2 hg)
    have slotsAt : ∀ u v, lk s'.sl u = some v → (∀ sp ∈ sps, sp.d ≠ u) → AVR w2 Pr ρ cargs v (a2.tmps.getD u undef) := by
      intro u v hv hub
      have : AVR ({ w with drawn := w.drawn + 1 } : World) Pr ρ cargs v (a2.tmps.getD u undef) := by
        rcases hpath.final hv with ⟨j, o, h1, h2, h3⟩ | ⟨h1, h2⟩
        · have hj := frontM_real h1 h2
          exact hinv.done j o v u h1 h3 ((hlist j (lt_size hj.2.1)).2 hj.1) h2
        · exact hinv.still u v h1 hub fun j o hj hd => absurd hd (h2 j o hj)
      exact this.keep (fun k hk => hinv.same.block k (hpw k hk)) fun _ _ h => h
    have hhow : HowG T s' ({ w with drawn := w.drawn + 1 } : World) w2 Pr ρ cargs sps fun u => a2.tmps.getD u undef := by
      refine ⟨fun m hm t x hk => ?_, fun m hm t n hk => ?_, fun m hm t n ps hk => ?_, fun m hm b hk => ?_, fun m hm m' hm' hne h1 h2 g hg => ?_, slotsAt⟩
      · have := hinv.ext m hm (hl m hm)
        unfold Ext1 at this
        rw [hk] at this
        dsimp only at this
        obtain ⟨e, kd, q, n, a1, a2', a3, vs, a4, a5, a6⟩ := this
        exact ⟨e, kd, q, n, a1, a2', a3, vs, a4, a5, fun g hg => ⟨a6 g hg, hng' g (a6 g hg)⟩⟩
      · have := hinv.ext m hm (hl m hm)
        unfold Ext1 at this
        rw [hk] at this
        dsimp only at this
        obtain ⟨e, kd, a1, a2', vs, a4, a5, a6⟩ := this
        exact ⟨e, kd, a1, a2', vs, a4, a5, fun g hg => ⟨a6 g hg, hng' g (a6 g hg)⟩⟩
      · have := hinv.ext m hm (hl m hm)
        unfold Ext1 at this
        rw [hk] at this
        dsimp only at this
        obtain ⟨e, kd, els, xs, a1, a2', a3, a3', vs, a4, a5, a6⟩ := this
        exact ⟨e, kd, els, xs, a1, a2', a3, a3', vs, a4, a5, fun g hg => ⟨a6 g hg, hng' g (a6 g hg)⟩⟩
      · have := hinv.ext m hm (hl m hm)
        unfold Ext1 at this
        rw [hk] at this
        exact this
      · have hgo : ∀ q : Sp, q.k.isMk → gOf q.k (a2.tmps.getD q.d undef) = (a2.tmps.getD q.d undef).ownBlock := by
          intro q hq
          cases hk : q.k <;> rw [hk] at hq <;> first | rfl | exact hq.elim
        have := hinv.dist m hm m' hm' hne (hl m hm) (hl m' hm') g
        rw [hgo m h1, hgo m' h2] at this
        exact this hg
    obtain ⟨sl, rows, vs, b1, b2, b3, b4, b5⟩ := makeG_ok (cargs := cargs) hT hst hhow hlenρ sps [] s'.sl [] [] rfl hk trivial (fun v hv => by cases hv) List.Pairwise.nil fun u av hu hsp => by
      rw [List.append_nil]
      exact slotsAt u av hu hsp
    refine hQ s'.H sl rows vs listed a2 w2 b1 ⟨hinv.size, hinv.defers, b5, ?_, hs.keep.trans (Keep.of_below (hsame.trans hinv.same) (hs.lt hp))⟩ hinv.lsize hlist
    rw [hHl]
    exact hH.grow hinv.same.block (fun k hk hpr => hpr) b2 b4

/-- **A DRAWN REGION IN WHICH A SLICE OF ROWS IS MADE.** -/
theorem drawnM_ok (hT : TOK P T) (hG : GOKs P G) {ops : Array Oper} (hd : drawOk ops = true) {sps : List Sp} (hsps : sps = specials T 0 [] ops.toList) {p q : Nat} {Q : Exit → Act → World → Prop} {out : Out} {k : St → Option Nat → R} {id : Nat} {s : St} {M : Option Nat} {a : Act} {w : World} {ρ : List Value}
    (h : drawnM T G nt ops sps p q s M k = some out) (hs : SRu Pr w0 cargs nt M s a w ρ) (hQ : ∀ s' M' a' w' ρ', k s' M' = some out → SRu Pr w0 cargs nt M' s' a' w' ρ' → Q .normal a' w') : (Code.region id ops true).wp P Q a w := by
  unfold drawnM at h
  cases hsg : (noGhost sps && statM ops nt p q sps) with
  | false => rw [hsg] at h; cases h
  | true =>
    rw [hsg] at h
    simp only [cond_true] at h
    rw [Bool.and_eq_true] at hsg
    have hsm := hsg.2
    unfold statM at hsm
    rw [Bool.and_eq_true, Bool.and_eq_true, Bool.and_eq_true] at hsm
    obtain ⟨s1, s2, s3, s4⟩ := hsm
    have hpq := Nat.le_of_ble_eq_true s1
    have hql := Nat.le_of_ble_eq_true s2
    have hq : q ≤ ops.size := by simpa using hql
    have hbeh : ∀ (i : Nat) (o : Oper), ops.toList[i]? = some o → p ≤ i → ∀ j, j < i → j < q → Anc ops.toList j i := by
      intro i o ho hp j hj hjq
      have := behindQ_spec (all := ops.toList) s3 rfl (fun i o h => by rw [Nat.zero_add]; exact h) (fun k j hj => by simp at hj) i o ho (by omega) j (by omega) hjq
      rwa [Nat.zero_add] at this
    have hst := statSp_ok hd hsps (Nat.le_trans hpq hql) (fun i o ho hp j hj => hbeh i o ho hp j (by omega) (by omega)) s4
    obtain ⟨Pr', w1, h1, h2, h3, h4, h5⟩ := hs
    refine frontG_ok (kk := fun H' sl rows => opsU T G nt ops.toList ((ops.toList.take q).drop p) ⟨sl, H' ++ rows.map some⟩ M fun s2 M2 => opsK T true nt (idleM (List.range q) 0 (ops.toList.take ops.toList.length)) (idleM (List.range q) 0 (ops.toList.take ops.toList.length)) s2 fun s3 => k s3 M2) hT h2 hst hsg.1 h h4 fun H' sl rows vs listed a2 w2 hk hs2 hsz hl => ?_
    have hs3 : SRu Pr w0 cargs nt M ⟨sl, H' ++ rows.map some⟩ a2 w2 (ρ ++ vs) := ⟨Pr', w1, h1, h2, h3, hs2, fun r hr => by
      obtain ⟨v, g, b1, b2⟩ := h5 r hr
      exact ⟨v, g, by rw [List.getElem?_append_left (List.getElem?_eq_some_iff.1 b1).1]; exact b1, b2⟩⟩
    have hlen : ((ops.toList.take q).drop p).length = q - p := by
      rw [List.length_drop, List.length_take]
      simp at hql ⊢
      omega
    have := turnU_ok (Q := Q) hT hG hd hbeh hq ((ops.toList.take q).drop p) p _ M listed a2 w2 (ρ ++ vs) rfl (Nat.le_refl _) (by rw [hlen]; omega) hsz hl hk hs3 fun s' M' listed' a' w' ρ' hk' hs' hsz' hl' => tail_ok hT hd hq hk' hs' hsz' hl' fun s'' a'' w'' ρ'' hk'' hs'' => hQ s'' M' a'' w'' ρ'' hk'' hs''
    rw [hlen] at this
    rwa [show (ops.toList.drop p).length = q - p + (ops.size - q) by simp; omega]

end
end Go.Sm

/- A drawn region in which a slice of rows is written, and some operations don't wait for that. -/
namespace Go.Sm
open Go Go.RowKit

def findM : List (Nat × AV) → Option Nat
  | [] => none
  | (t, .fv (.mv _ _ _)) :: _ => some t
  | _ :: l => findM l

def eqOp : Option Nat → Option Nat → Bool
  | none, none => true
  | some a, some b => Nat.beq a b
  | _, _ => false
def eqPi : List (Option Nat) → List (Option Nat) → Bool
  | [], [] => true
  | a :: as, b :: bs => eqOp a b && eqPi as bs
  | _, _ => false

theorem eqOp_spec {a b : Option Nat} (h : eqOp a b = true) : a = b := by
  cases a <;> cases b <;> first | rfl | cases h | (rw [Nat.eq_of_beq_eq_true h])
theorem eqPi_spec : ∀ {a b : List (Option Nat)}, eqPi a b = true → a = b
  | [], [], _ => rfl
  | a :: as, b :: bs, h => by
    unfold eqPi at h
    rw [Bool.and_eq_true] at h
    rw [eqOp_spec h.1, eqPi_spec h.2]
  | [], _ :: _, h => by cases h
  | _ :: _, [], h => by cases h

/-- All that leads to the slice of rows knows this of it. -/
def okM (r e : Nat) (π : List (Option Nat)) : AV → Bool
  | .fv (.mv r' e' π') => Nat.beq r r' && (Nat.beq e e' && eqPi π π')
  | .fv (.pm r' e' π' _) => Nat.beq r r' && (Nat.beq e e' && eqPi π π')
  | v => vfA v
def allM (r e : Nat) (π : List (Option Nat)) (sl : List (Nat × AV)) : Bool := sl.all fun x => okM r e π x.2

def hidden (π : List (Option Nat)) : List (Option Nat) := π.map fun _ => none

def drawnL (T : TT) (G : Nat → Option GF) (nt : Nat) (ops : Array Oper) (is1 p : Nat) (s : St) (M : Option Nat) (k : St → Option Nat → R) : R :=
  match findM s.sl with
  | none => none
  | some tm => match lk s.sl tm, ops.toList[is1]? with
    | some (.fv (.mv r e π)), some o => (match o.op, o.dst, o.guard with
      | .store t (.tmp a) (.tmp y), none, none => bif statS ops is1 p (ancsAt ops is1) then
          opsK T true nt (idleM (is1 :: restOf p is1 (ancsAt ops is1)) 0 (ops.toList.take p)) (idleM (is1 :: restOf p is1 (ancsAt ops is1)) 0 (ops.toList.take p)) ⟨clean (keepM r e π) [] s.sl, s.H⟩ fun s1 => match lk s1.sl a, lk s1.sl y, M with
            | some (.fv (.pm _ _ _ i)), some (.fv (.own j)), some r' => (match T.sl t, rowAt s1.H j with
              | some _, some _ => bif Nat.beq r r' && (decide (i < π.length) && allM r e π s1.sl) then
                  opsK T true nt (idleM (is1 :: ancsAt ops is1) 0 (ops.toList.take p)) (idleM (is1 :: ancsAt ops is1) 0 (ops.toList.take p)) ⟨clean (keepM r e (hidden π)) [] s1.sl, s1.H⟩ fun s2 => bif allM r e (hidden π) s2.sl then
                    opsU T G nt ops.toList ((ops.toList.take ops.toList.length).drop p) ⟨clean (keepM r e (π.set i (some j))) [] s2.sl, s2.H⟩ M k
                  else none
                else none
              | _, _ => none)
            | _, _, _ => none
        else none
      | _, _, _ => none)
    | _, _ => none

section
variable {P : Program} {T : TT} {G : Nat → Option GF} {Pr : Nat → Prop} {w0 : World} {cargs : List Value} {nt : Nat}

theorem okM_spec {r e : Nat} {π : List (Option Nat)} {v : AV} (h : okM r e π v = true) : vfA v = true ∧ ∀ w Pr ρ, MR w Pr ρ r e π → matA w Pr ρ v := by
  unfold okM at h
  split at h
  · rename_i r' e' π'
    rw [Bool.and_eq_true, Bool.and_eq_true] at h
    have h1 := Nat.eq_of_beq_eq_true h.1
    have h2 := Nat.eq_of_beq_eq_true h.2.1
    have h3 := eqPi_spec h.2.2
    subst h1 h2 h3
    exact ⟨rfl, fun _ _ _ h => h⟩
  · rename_i r' e' π' i
    rw [Bool.and_eq_true, Bool.and_eq_true] at h
    have h1 := Nat.eq_of_beq_eq_true h.1
    have h2 := Nat.eq_of_beq_eq_true h.2.1
    have h3 := eqPi_spec h.2.2
    subst h1 h2 h3
    exact ⟨rfl, fun _ _ _ h => h⟩
  · rename_i h1 h2
    refine ⟨h, fun w Pr ρ _ => ?_⟩
    cases v with
    | un => trivial
    | tup xs => trivial
    | fv x => cases x with
      | mv r e π => exact absurd rfl (h1 r e π)
      | pm r e π i => exact absurd rfl (h2 r e π i)
      | _ => trivial

theorem lk_in : ∀ {l : List (Nat × AV)} {t : Nat} {v : AV}, lk l t = some v → (t, v) ∈ l
  | [], _, _, h => by cases h
  | (t0, v0) :: l, t, v, h => by
    rw [lk_cons] at h
    split at h
    · rename_i e
      subst e
      cases h
      exact List.mem_cons_self
    · exact List.mem_cons_of_mem _ (lk_in h)

theorem allM_lk {r e : Nat} {π : List (Option Nat)} {sl : List (Nat × AV)} (h : allM r e π sl = true) {t : Nat} {v : AV} (hm : (t, v) ∈ sl) : okM r e π v = true := List.all_eq_true.1 h (t, v) hm

theorem Guard.sub {all : List Oper} {g : Option (Nat × Bool)} {s s1 : St} {b : Bool} (h : Guard all g s b s1) : ∀ x ∈ s.sl, x ∈ s1.sl := by
  cases h with
  | always h => exact fun _ h => h
  | test j want b o d h1 h2 h3 h4 => exact fun _ h => List.mem_cons_of_mem _ h
  | skip j want o d h1 h2 h3 h4 => exact fun _ h => h

theorem put_sub {s : St} {d : Option Nat} {av : AV} {H : Hp} : ∀ x ∈ s.sl, x ∈ (putS s d av H).sl := by
  cases d with
  | none => exact fun _ h => h
  | some d => exact fun _ h => List.mem_cons_of_mem _ h

theorem Path.mem {all os : List Oper} {s s' : St} {avs : List AV} (h : Path P all nt os s avs s') : (∀ x ∈ s.sl, x ∈ s'.sl) ∧ ∀ (j : Nat) (o : Oper) (av : AV) (u : Nat), os[j]? = some o → avs[j]? = some av → o.dst = some u → (u, av) ∈ s'.sl := by
  induction h with
  | nil s => exact ⟨fun _ h => h, fun j o av u h => by simp at h⟩
  | yes o os s s1 s' av avs h1 h2 h3 h4 ih =>
    refine ⟨fun x hx => ih.1 x (put_sub x (h2.sub x hx)), fun j o' av' u hj ha hd => ?_⟩
    cases j with
    | zero =>
      simp at hj ha
      subst hj ha
      refine ih.1 _ ?_
      rw [hd]
      exact List.mem_cons_self
    | succ j => exact ih.2 j o' av' u (by simpa using hj) (by simpa using ha) hd
  | no o os s s1 s' avs h1 h2 h4 ih =>
    refine ⟨fun x hx => ih.1 x (put_sub x (h2.sub x hx)), fun j o' av' u hj ha hd => ?_⟩
    cases j with
    | zero =>
      simp at hj ha
      subst hj ha
      refine ih.1 _ ?_
      rw [hd]
      exact List.mem_cons_self
    | succ j => exact ih.2 j o' av' u (by simpa using hj) (by simpa using ha) hd

theorem hidden_set {π : List (Option Nat)} {i : Nat} {x : Option Nat} : hidden (π.set i x) = hidden π := by
  unfold hidden
  apply List.ext_getElem?
  intro q
  rw [List.getElem?_map, List.getElem?_map, List.getElem?_set]
  by_cases h : i = q
  · subst h
    rw [if_pos rfl]
    by_cases hl : i < π.length
    · rw [if_pos hl, List.getElem?_eq_getElem hl]
      rfl
    · rw [if_neg hl, List.getElem?_eq_none (by omega)]
  · rw [if_neg h]

/-- What holds on the way. -/
structure InvL (Pr Pr' : Nat → Prop) (w1 : World) (ρ : List Value) (nt : Nat) (ops : Array Oper) (p is1 r e : Nat) (π π' : List (Option Nat)) (A : List Nat) (H : Hp) (sl0 : List (Nat × AV)) (avs1 avs2 : List AV) (listed : Array Bool) (a : Act) (w : World) : Prop where
  size : a.tmps.size = nt
  defers : a.defers = []
  lsize : listed.size = ops.size
  bnd : ∀ k, Pr' k → k < w.heap.size
  keep : Keep Pr w1 w
  heap : HR w Pr' ρ H
  doneA : ∀ (j : Nat) (o : Oper) (av : AV) (u : Nat), (idleM (is1 :: restOf p is1 A) 0 (ops.toList.take p))[j]? = some o → avs1[j]? = some av → listed.getD j true = true → o.dst = some u → VFA ρ av (a.tmps.getD u undef)
  doneB : ∀ (j : Nat) (o : Oper) (av : AV) (u : Nat), (idleM (is1 :: A) 0 (ops.toList.take p))[j]? = some o → avs2[j]? = some av → listed.getD j true = true → o.dst = some u → VFA ρ av (a.tmps.getD u undef)
  still : ∀ (u : Nat) (v : AV), lk sl0 u = some v → (∀ (j : Nat) (o : Oper), j < p → ops.toList[j]? = some o → o.dst = some u → listed.getD j true = false) → VFA ρ v (a.tmps.getD u undef)
  down : ∀ (j : Nat) (o : Oper), ops.toList[j]? = some o → listed.getD j true = true → ∀ e ∈ o.after, Region.binds .any e = true → listed.getD e.on true = true
  suf : ∀ i, p ≤ i → i < ops.size → listed.getD i true = false
  m0 : listed.getD is1 true = false → MR w Pr' ρ r e π
  m1 : listed.getD is1 true = true → MR w Pr' ρ r e π'

/-- A quiet operation, whenever it comes up. -/
theorem invL_quiet {Pr' : Nat → Prop} {ops : Array Oper} {p is1 r e : Nat} {π π' : List (Option Nat)} {A : List Nat} {t a0 : Nat} {y : Operand} (hst : StatS ops is1 p A t a0 y) {H : Hp} {sl0 : List (Nat × AV)} {avs1 avs2 : List AV} {w1 : World} {ρ : List Value} (hsub : ∀ k, Pr k → Pr' k)
    {listed : Array Bool} {a : Act} {w : World} (hinv : InvL Pr Pr' w1 ρ nt ops p is1 r e π π' A H sl0 avs1 avs2 listed a w) {i : Nat} {o : Oper} (ho : ops.toList[i]? = some o) (hip : i < p) (his : i ≠ is1) (hun : listed.getD i true = false)
    (hall : ∀ e ∈ o.after, Region.binds .any e = true → listed.getD e.on true = true) (hdst : dstOk nt o.dst = true) {av : AV} (hA : i ∉ is1 :: restOf p is1 A → avs1[i]? = some av) (hB : i ∉ is1 :: A → avs2[i]? = some av)
    {v : Value} {w' : World} (hv1 : ∀ u, o.dst = some u → VFA ρ av v) (hs : Same w w') : InvL Pr Pr' w1 ρ nt ops p is1 r e π π' A H sl0 avs1 avs2 (listed.setIfInBounds i true) (a.put o.dst v) w' := by
  have hil' : i < listed.size := by rw [hinv.lsize]; exact lt_size ho
  have spec := draw_spec (all := ops) (n := 0) hst.draw
  simp only [Nat.zero_add] at spec
  have hgd : ∀ (u : Nat), (a.put o.dst v).tmps.getD u undef = if o.dst = some u then v else a.tmps.getD u undef := by
    intro u
    cases hd : o.dst with
    | none => simp [Act.put]
    | some d' =>
      have hlt' : d' < a.tmps.size := by rw [hinv.size]; rw [hd] at hdst; exact of_decide_eq_true hdst
      simp only [Act.put]
      rw [getD_set _ _ _ _ hlt']
      simp
  have hother : ∀ (j : Nat) (o' : Oper) (u : Nat), j ≠ i → ops.toList[j]? = some o' → o'.dst = some u → o.dst ≠ some u := by
    intro j o' u hne hj' hd
    rcases Nat.lt_or_gt_of_ne hne with h | h
    · exact fun h2 => (pair_spec ((spec j o' hj').2 i o h ho)).2 u hd h2
    · intro h2; exact (pair_spec ((spec i o ho).2 j o' h hj')).2 u h2 hd
  have hl1 : (listed.setIfInBounds i true).getD is1 true = listed.getD is1 true := by
    rw [getD_listed hil', if_neg his]
  refine ⟨?_, ?_, by simp [hinv.lsize], fun k hk => Nat.lt_of_lt_of_le (hinv.bnd k hk) hs.size, hinv.keep.trans (Keep.of_below hs fun k hk => hinv.bnd k (hsub k hk)), hinv.heap.keep hs.block, fun j o' av' u hj ha hl hd => ?_, fun j o' av' u hj ha hl hd => ?_, fun u v' hu hno => ?_, fun j o' hj hl e' he' hb' => ?_, fun j h1 h2 => ?_, fun h => ?_, fun h => ?_⟩
  · cases o.dst <;> simp [Act.put, hinv.size]
  · cases o.dst <;> exact hinv.defers
  · rw [hgd u]
    obtain ⟨_, hj', hnm⟩ := frontM_real hj hd
    by_cases e' : j = i
    · subst e'
      rw [ho] at hj'
      cases hj'
      rw [hA hnm] at ha
      cases ha
      rw [if_pos hd]
      exact hv1 u hd
    · rw [if_neg (hother j o' u e' hj' hd)]
      rw [getD_listed hil', if_neg (Ne.symm e')] at hl
      exact hinv.doneA j o' av' u hj ha hl hd
  · rw [hgd u]
    obtain ⟨_, hj', hnm⟩ := frontM_real hj hd
    by_cases e' : j = i
    · subst e'
      rw [ho] at hj'
      cases hj'
      rw [hB hnm] at ha
      cases ha
      rw [if_pos hd]
      exact hv1 u hd
    · rw [if_neg (hother j o' u e' hj' hd)]
      rw [getD_listed hil', if_neg (Ne.symm e')] at hl
      exact hinv.doneB j o' av' u hj ha hl hd
  · rw [hgd u]
    have hne : o.dst ≠ some u := by
      intro h2
      have := hno i o hip ho h2
      rw [getD_listed hil', if_pos rfl] at this
      cases this
    rw [if_neg hne]
    refine hinv.still u v' hu fun j o' hjp hj hd => ?_
    have := hno j o' hjp hj hd
    rw [getD_listed hil'] at this
    split at this
    · cases this
    · exact this
  · rw [getD_listed hil'] at hl ⊢
    split
    · rfl
    · by_cases e2 : i = j
      · subst e2
        rw [ho] at hj
        cases hj
        exact hall e' he' hb'
      · rw [if_neg e2] at hl
        exact hinv.down j o' hj hl e' he' hb'
  · rw [getD_listed hil', if_neg (by omega)]
    exact hinv.suf j h1 h2
  · rw [hl1] at h
    exact (hinv.m0 h).keep (fun k hk => hs.block k (hinv.bnd k hk)) fun _ _ h => h
  · rw [hl1] at h
    exact (hinv.m1 h).keep (fun k hk => hs.block k (hinv.bnd k hk)) fun _ _ h => h

/-- **ONE OPERATION AHEAD OF THE LAST ONES.** -/
theorem invL_step (hT : TOK P T) {Pr' : Nat → Prop} {ops : Array Oper} {p is1 r e t a0 y0 i0 j0 e0 g : Nat} {π : List (Option Nat)} {A : List Nat} (hst : StatS ops is1 p A t a0 (.tmp y0)) {H : Hp} {sl0 : List (Nat × AV)} {s1 s2 : St} {avs1 avs2 : List AV} {r1 e1 : Nat} {π1 : List (Option Nat)} {row : Row} {vr : Value}
    (hpath1 : Path P (idleM (is1 :: restOf p is1 A) 0 (ops.toList.take p)) nt (idleM (is1 :: restOf p is1 A) 0 (ops.toList.take p)) ⟨sl0, H⟩ avs1 s1)
    (hpath2 : Path P (idleM (is1 :: A) 0 (ops.toList.take p)) nt (idleM (is1 :: A) 0 (ops.toList.take p)) ⟨clean (keepM r e (hidden π)) [] s1.sl, H⟩ avs2 s2)
    (hm1 : allM r e π s1.sl = true) (hm2 : allM r e (hidden π) s2.sl = true) (hla : lk s1.sl a0 = some (.fv (.pm r1 e1 π1 i0))) (hly : lk s1.sl y0 = some (.fv (.own j0))) (hsl : T.sl t = some e0) (hrow : rowAt H j0 = some row) (hi0 : i0 < π.length)
    {w1 : World} {ρ : List Value} (hsub : ∀ k, Pr k → Pr' k) (hvr : ρ[r]? = some vr) (hg : vr.ownBlock = some g) (hng : ¬ Pr g)
    {listed : Array Bool} {a : Act} {w : World} (hinv : InvL Pr Pr' w1 ρ nt ops p is1 r e π (π.set i0 (some j0)) A H sl0 avs1 avs2 listed a w) {i : Nat} (hr : i ∈ Region.ready .any ops listed) (hip : i < p) {Q : Exit → Act → World → Prop} {K : Act → World → Prop}
    (hK : ∀ a2 w2, InvL Pr Pr' w1 ρ nt ops p is1 r e π (π.set i0 (some j0)) A H sl0 avs1 avs2 (listed.setIfInBounds i true) a2 w2 → K a2 w2) : wpOp P ops Q i K a w := by
  obtain ⟨hun, o, ho, hall⟩ := mem_ready.1 hr
  have ho' : ops.toList[i]? = some o := by rw [← ho]; simp
  have hil' : i < listed.size := by rw [hinv.lsize]; exact lt_size ho'
  have spec := draw_spec (all := ops) (n := 0) hst.draw
  simp only [Nat.zero_add] at spec
  have hall' : ∀ e ∈ o.after, Region.binds .any e = true → listed.getD e.on true = true := fun e he hb => getD_false (hall e he hb)
  have hmem : ∀ u, optIn (some u) (o.looksAt ops) = true → u ∈ o.looksAt ops := fun u h => memN_iff.1 h
  have hhid : MR w Pr' ρ r e (hidden π) := by
    cases hb : listed.getD is1 true with
    | false => exact (hinv.m0 hb).hide
    | true =>
      have := (hinv.m1 hb).hide
      rw [show (π.set i0 (some j0)).map (fun _ => none) = hidden π from hidden_set] at this
      exact this
  have pairS : ∀ (j : Nat) (o' : Oper) (u : Nat), ops.toList[j]? = some o' → o'.dst = some u → u ∈ o.looksAt ops → (j < i ∧ listed.getD j true = true ∧ ∃ e ∈ o.after, Region.binds .any e = true ∧ e.on = j) ∨ j = i ∨ (i < j ∧ listed.getD j true = false ∧ ∃ e ∈ o'.after, Region.binds .any e = true ∧ e.on = i) := by
    intro j o' u hj hd hu
    rcases Nat.lt_trichotomy j i with h | h | h
    · refine .inl ⟨h, ?_⟩
      rcases (pair_spec ((spec j o' hj).2 i o h ho')).1 with ⟨e', he', hb', hon⟩ | ⟨hno, _⟩
      · refine ⟨?_, e', he', hb', hon⟩
        rw [← hon]
        exact hall' e' he' hb'
      · exact absurd hu (hno u hd)
    · exact .inr (.inl h)
    · refine .inr (.inr ⟨h, ?_⟩)
      rcases (pair_spec ((spec i o ho').2 j o' h hj)).1 with ⟨e', he', hb', hon⟩ | ⟨_, hno⟩
      · refine ⟨?_, e', he', hb', hon⟩
        cases hl : listed.getD j true with
        | false => rfl
        | true =>
          have := hinv.down j o' hj hl e' he' hb'
          rw [hon, hun] at this
          cases this
      · exact absurd hu (hno u hd)
  unfold wpOp
  rw [ho]
  dsimp only
  by_cases his : i = is1
  · -- THE WRITE
    subst his
    obtain ⟨o2, ho2, hop, hdst, hgd⟩ := hst.st
    rw [ho'] at ho2
    cases ho2
    have hw : Region.wanted o (yielded ops a.tmps) = true := by unfold Region.wanted; rw [hgd]
    rw [if_pos hw]
    have hlook : ∀ u, u ∈ o.looksAt ops → ∀ v, lk s1.sl u = some v → AVR w Pr' ρ [] v (a.tmps.getD u undef) := by
      intro u hu v hv
      obtain ⟨k1, k2⟩ := okM_spec (allM_lk hm1 (lk_in hv))
      refine VFA.to k1 ?_ (k2 _ _ _ (hinv.m0 hun))
      rcases hpath1.final hv with ⟨j, o', h1, h2, h3⟩ | ⟨h1, h2⟩
      · obtain ⟨hjp, hj, hne⟩ := frontM_real h1 h2
        refine hinv.doneA j o' v u h1 h3 ?_ h2
        rcases pairS j o' u hj h2 hu with h8 | h8 | h8
        · exact h8.2.1
        · exact absurd (List.mem_cons.2 (.inl h8)) hne
        · obtain ⟨_, _, e', he', hb', hon⟩ := h8
          have hjA : j ∈ A := by
            refine Classical.byContradiction fun hna => hne (List.mem_cons_of_mem _ (rest_mem.2 ⟨hjp, hna, fun e => hne (List.mem_cons.2 (.inl e))⟩))
          exact anc_ready hinv.down (hst.anc j hjA) ho' hall'
      · refine hinv.still u v h1 fun j o' hjp hj hd => ?_
        rcases pairS j o' u hj hd hu with h8 | h8 | h8
        · obtain ⟨_, _, e', he', hb', hon⟩ := h8
          have hjA : j ∈ A := by rw [← hon]; exact hst.clos i o (.inl rfl) ho' e' he' hb'
          refine absurd hd (h2 j o' (frontM_of hjp hj fun hm => ?_))
          rcases List.mem_cons.1 hm with h9 | h9
          · subst h9
            rw [ho'] at hj
            cases hj
            rw [hdst] at hd
            cases hd
          · exact (rest_mem.1 h9).2.1 hjA
        · subst h8
          exact hun
        · exact h8.2.1
    have hlooks := looks_store (ops := ops) hop
    have ha : FVR w Pr' ρ [] (.pm r1 e1 π1 i0) (a.eval (.tmp a0)) := hlook a0 hlooks.1 _ hla
    have hy : ρ[j0]? = some (a.eval (.tmp y0)) := hlook y0 hlooks.2 _ hly
    have heq : r1 = r ∧ e1 = e ∧ π1 = π := by
      have := allM_lk hm1 (lk_in hla)
      unfold okM at this
      rw [Bool.and_eq_true, Bool.and_eq_true] at this
      exact ⟨(Nat.eq_of_beq_eq_true this.1).symm, (Nat.eq_of_beq_eq_true this.2.1).symm, (eqPi_spec this.2.2).symm⟩
    obtain ⟨rfl, rfl, rfl⟩ := heq
    refine .inl ((mstore_run (cargs := []) hT hop hsl a hinv.heap ha hy hrow hi0 hvr hg).wp ?_)
    rintro v w' ⟨c1, c2, c3, c4, c5, c6, c7, c8⟩
    rw [hdst]
    refine hK _ _ ⟨hinv.size, hinv.defers, by simp [hinv.lsize], fun k hk => by rw [c8]; exact hinv.bnd k hk, hinv.keep.trans ⟨c5, c6, c7, by rw [c8]; exact Nat.le_refl _, fun k hk => c4 k fun e => hng (e ▸ hk)⟩, c2, fun j o' av' u hj ha hl hd => ?_, fun j o' av' u hj ha hl hd => ?_, fun u v' hu hno => ?_, fun j o' hj hl e' he' hb' => ?_, fun j h1 h2 => ?_, fun h => ?_, fun _ => c3⟩
    · obtain ⟨_, _, hnm⟩ := frontM_real hj hd
      have hji : ¬ i = j := fun e => hnm (List.mem_cons.2 (.inl e.symm))
      rw [getD_listed hil', if_neg hji] at hl
      exact hinv.doneA j o' av' u hj ha hl hd
    · obtain ⟨_, _, hnm⟩ := frontM_real hj hd
      have hji : ¬ i = j := fun e => hnm (List.mem_cons.2 (.inl e.symm))
      rw [getD_listed hil', if_neg hji] at hl
      exact hinv.doneB j o' av' u hj ha hl hd
    · refine hinv.still u v' hu fun j o' hjp hj hd => ?_
      have := hno j o' hjp hj hd
      rw [getD_listed hil'] at this
      split at this
      · cases this
      · exact this
    · rw [getD_listed hil'] at hl ⊢
      split
      · rfl
      · by_cases e2 : i = j
        · subst e2
          rw [ho'] at hj
          cases hj
          exact hall' e' he' hb'
        · rw [if_neg e2] at hl
          exact hinv.down j o' hj hl e' he' hb'
    · rw [getD_listed hil', if_neg (by omega)]
      exact hinv.suf j h1 h2
    · rw [getD_listed hil', if_pos rfl] at h
      cases h
  · by_cases hiA : i ∈ A
    · -- WHAT THE WRITE WAITS FOR
      have hnm : i ∉ is1 :: restOf p is1 A := fun hm => by
        rcases List.mem_cons.1 hm with h | h
        · exact his h
        · exact (rest_mem.1 h).2.1 hiA
      have hoi := frontM_of hip ho' hnm
      obtain ⟨av, hav⟩ : ∃ av, avs1[i]? = some av := ⟨_, List.getElem?_eq_getElem (by rw [hpath1.len, idleM_len, List.length_take]; have := lt_size ho'; simp; omega)⟩
      obtain ⟨hdst, si, sx, hsH, hstep, hslots⟩ := hpath1.at hoi hav
      have hun1 : listed.getD is1 true = false := by
        cases hb : listed.getD is1 true with
        | false => rfl
        | true =>
          have := anc_listed hinv.down (hst.anc i hiA) hb
          rw [hun] at this
          cases this
      have hlook : ∀ u, u ∈ o.looksAt ops → ∀ v, lk si.sl u = some v → AVR w Pr' ρ [] v (a.tmps.getD u undef) := by
        intro u hu v hv
        have key : okM r e π v = true ∧ VFA ρ v (a.tmps.getD u undef) := by
          rcases hslots u v hv with ⟨j, o', h1, h2, h3, h4⟩ | ⟨h1, h2⟩
          · obtain ⟨hjp, h2', _⟩ := frontM_real h2 h3
            refine ⟨allM_lk hm1 (hpath1.mem.2 j o' v u h2 h4 h3), hinv.doneA j o' v u h2 h4 ?_ h3⟩
            rcases pairS j o' u h2' h3 hu with h8 | h8 | h8
            · exact h8.2.1
            · omega
            · omega
          · refine ⟨allM_lk hm1 (hpath1.mem.1 _ (lk_in h1)), hinv.still u v h1 fun j o' hjp hj hd => ?_⟩
            rcases pairS j o' u hj hd hu with h8 | h8 | h8
            · obtain ⟨hji, _, e', he', hb', hon⟩ := h8
              have hjA : j ∈ A := by rw [← hon]; exact hst.clos i o (.inr hiA) ho' e' he' hb'
              refine absurd hd (h2 j o' hji (frontM_of hjp hj fun hm => ?_))
              rcases List.mem_cons.1 hm with h9 | h9
              · subst h9
                obtain ⟨o3, ho3, _, hd3, _⟩ := hst.st
                rw [hj] at ho3
                cases ho3
                rw [hd3] at hd
                cases hd
              · exact (rest_mem.1 h9).2.1 hjA
            · subst h8; exact hun
            · exact h8.2.1
        obtain ⟨k1, k2⟩ := okM_spec key.1
        exact VFA.to k1 key.2 (k2 _ _ _ (hinv.m0 hun1))
      have hnext : ∀ (v : Value) (w' : World), AVR w Pr' ρ [] av v → Same w w' → K (a.put o.dst v) w' := fun v w' hv hs =>
        hK _ _ (invL_quiet hst hsub hinv ho' hip his hun hall' hdst (fun _ => hav) (fun h => absurd (List.mem_cons_of_mem _ hiA) h) (fun u hd => VFA.of (okM_spec (allM_lk hm1 (hpath1.mem.2 i o av u hoi hav hd))).1 hv) hs)
      rcases hstep with ⟨hg', hq⟩ | ⟨hg', rfl⟩
      · rw [if_pos (hg'.frontM.wanted (w := w) (Pr := Pr') (ρ := ρ) (cargs := []) fun u hd v hv => hlook u (hmem u hd) v hv)]
        refine .inl ((hq a w Pr' ρ [] hinv.bnd ?_ (Opd.of_slots fun u hu v hv => ?_)).wp fun v w' ⟨h1, h2⟩ => hnext v w' h1 h2)
        · rw [hg'.same.2, hsH]
          exact hinv.heap
        · refine hlook u ?_ v (by rw [← hg'.same.1 u]; exact hv)
          unfold Oper.looksAt
          refine List.mem_append_left _ (List.mem_filterMap.2 ⟨.tmp u, by simpa using hu, rfl⟩)
      · rw [if_neg (by rw [hg'.frontM.wanted (w := w) (Pr := Pr') (ρ := ρ) (cargs := []) fun u hd v hv => hlook u (hmem u hd) v hv]; exact Bool.false_ne_true)]
        exact hnext undef w rfl (Same.refl w)
    · -- THE OTHERS
      have hnm : i ∉ is1 :: A := fun hm => by
        rcases List.mem_cons.1 hm with h | h
        · exact his h
        · exact hiA h
      have hoi := frontM_of hip ho' hnm
      obtain ⟨av, hav⟩ : ∃ av, avs2[i]? = some av := ⟨_, List.getElem?_eq_getElem (by rw [hpath2.len, idleM_len, List.length_take]; have := lt_size ho'; simp; omega)⟩
      obtain ⟨hdst, si, sx, hsH, hstep, hslots⟩ := hpath2.at hoi hav
      have hlook : ∀ u, u ∈ o.looksAt ops → ∀ v, lk si.sl u = some v → AVR w Pr' ρ [] v (a.tmps.getD u undef) := by
        intro u hu v hv
        rcases hslots u v hv with ⟨j, o', h1, h2, h3, h4⟩ | ⟨h1, h2⟩
        · obtain ⟨hjp, h2', _⟩ := frontM_real h2 h3
          obtain ⟨k1, k2⟩ := okM_spec (allM_lk hm2 (hpath2.mem.2 j o' v u h2 h4 h3))
          refine VFA.to k1 (hinv.doneB j o' v u h2 h4 ?_ h3) (k2 _ _ _ hhid)
          rcases pairS j o' u h2' h3 hu with h8 | h8 | h8
          · exact h8.2.1
          · omega
          · omega
        · obtain ⟨_, v0, d1, d2⟩ := clean_lk h1
          obtain ⟨q1, q2, q3, q4⟩ := keepM_spec d2
          refine VFA.to q2 (q3 _ _ ?_) (q4 _ _ _ hhid)
          have noB : ∀ (j : Nat) (o' : Oper), j < p → ops.toList[j]? = some o' → o'.dst = some u → j ∉ A → j ≠ is1 → listed.getD j true = false := by
            intro j o' hjp hj hd hjA hjs
            rcases pairS j o' u hj hd hu with h8 | h8 | h8
            · exact absurd hd (h2 j o' h8.1 (frontM_of hjp hj fun hm => (List.mem_cons.1 hm).elim hjs hjA))
            · subst h8; exact hun
            · exact h8.2.1
          rcases hpath1.final d1 with ⟨j, o', f1, f2, f3⟩ | ⟨f1, f2⟩
          · obtain ⟨hjp, hj, hne⟩ := frontM_real f1 f2
            have hjA : j ∈ A := Classical.byContradiction fun hna => hne (List.mem_cons_of_mem _ (rest_mem.2 ⟨hjp, hna, fun e => hne (List.mem_cons.2 (.inl e))⟩))
            refine hinv.doneA j o' v0 u f1 f3 ?_ f2
            rcases pairS j o' u hj f2 hu with h8 | h8 | h8
            · exact h8.2.1
            · subst h8; exact absurd hjA hiA
            · obtain ⟨_, _, e', he', hb', hon⟩ := h8
              refine absurd ?_ hiA
              rw [← hon]
              exact hst.clos j o' (.inr hjA) hj e' he' hb'
          · refine hinv.still u v0 f1 fun j o' hjp hj hd => ?_
            by_cases hjs : j = is1
            · subst hjs
              obtain ⟨o3, ho3, _, hd3, _⟩ := hst.st
              rw [hj] at ho3
              cases ho3
              rw [hd3] at hd
              cases hd
            · by_cases hjA : j ∈ A
              · refine absurd hd (f2 j o' (frontM_of hjp hj fun hm => ?_))
                rcases List.mem_cons.1 hm with h9 | h9
                · exact hjs h9
                · exact (rest_mem.1 h9).2.1 hjA
              · exact noB j o' hjp hj hd hjA hjs
      have hnext : ∀ (v : Value) (w' : World), AVR w Pr' ρ [] av v → Same w w' → K (a.put o.dst v) w' := fun v w' hv hs =>
        hK _ _ (invL_quiet hst hsub hinv ho' hip his hun hall' hdst (fun h => absurd (List.mem_cons_of_mem _ (rest_mem.2 ⟨hip, hiA, his⟩)) h) (fun _ => hav) (fun u hd => VFA.of (okM_spec (allM_lk hm2 (hpath2.mem.2 i o av u hoi hav hd))).1 hv) hs)
      rcases hstep with ⟨hg', hq⟩ | ⟨hg', rfl⟩
      · rw [if_pos (hg'.frontM.wanted (w := w) (Pr := Pr') (ρ := ρ) (cargs := []) fun u hd v hv => hlook u (hmem u hd) v hv)]
        refine .inl ((hq a w Pr' ρ [] hinv.bnd ?_ (Opd.of_slots fun u hu v hv => ?_)).wp fun v w' ⟨h1, h2⟩ => hnext v w' h1 h2)
        · rw [hg'.same.2, hsH]
          exact hinv.heap
        · refine hlook u ?_ v (by rw [← hg'.same.1 u]; exact hv)
          unfold Oper.looksAt
          refine List.mem_append_left _ (List.mem_filterMap.2 ⟨.tmp u, by simpa using hu, rfl⟩)
      · rw [if_neg (by rw [hg'.frontM.wanted (w := w) (Pr := Pr') (ρ := ρ) (cargs := []) fun u hd v hv => hlook u (hmem u hd) v hv]; exact Bool.false_ne_true)]
        exact hnext undef w rfl (Same.refl w)

/-- The operations ahead of the last ones, in whatever order. -/
theorem invL_any (hT : TOK P T) {Pr' : Nat → Prop} {ops : Array Oper} {p is1 r e t a0 y0 i0 j0 e0 g : Nat} {π : List (Option Nat)} {A : List Nat} (hst : StatS ops is1 p A t a0 (.tmp y0)) {H : Hp} {sl0 : List (Nat × AV)} {s1 s2 : St} {avs1 avs2 : List AV} {r1 e1 : Nat} {π1 : List (Option Nat)} {row : Row} {vr : Value}
    (hpath1 : Path P (idleM (is1 :: restOf p is1 A) 0 (ops.toList.take p)) nt (idleM (is1 :: restOf p is1 A) 0 (ops.toList.take p)) ⟨sl0, H⟩ avs1 s1)
    (hpath2 : Path P (idleM (is1 :: A) 0 (ops.toList.take p)) nt (idleM (is1 :: A) 0 (ops.toList.take p)) ⟨clean (keepM r e (hidden π)) [] s1.sl, H⟩ avs2 s2)
    (hm1 : allM r e π s1.sl = true) (hm2 : allM r e (hidden π) s2.sl = true) (hla : lk s1.sl a0 = some (.fv (.pm r1 e1 π1 i0))) (hly : lk s1.sl y0 = some (.fv (.own j0))) (hsl : T.sl t = some e0) (hrow : rowAt H j0 = some row) (hi0 : i0 < π.length)
    {w1 : World} {ρ : List Value} (hsub : ∀ k, Pr k → Pr' k) (hvr : ρ[r]? = some vr) (hg : vr.ownBlock = some g) (hng : ¬ Pr g)
    {Q : Exit → Act → World → Prop} (hQ : ∀ (listed : Array Bool) (a : Act) (w : World), InvL Pr Pr' w1 ρ nt ops p is1 r e π (π.set i0 (some j0)) A H sl0 avs1 avs2 listed a w → (∀ j, j < ops.size → (listed.getD j true = true ↔ j < p)) → wpAny P .any ops Q (ops.toList.drop p).length listed a w) :
    ∀ (fuel : Nat) (left : List Nat) (listed : Array Bool) (a : Act) (w : World), left.length = fuel → left.Nodup → (∀ i, i ∈ left ↔ i < p ∧ listed.getD i true = false) → InvL Pr Pr' w1 ρ nt ops p is1 r e π (π.set i0 (some j0)) A H sl0 avs1 avs2 listed a w → wpAny P .any ops Q (fuel + (ops.toList.drop p).length) listed a w := by
  have hpl : p ≤ ops.size := by simpa using hst.pl
  intro fuel
  induction fuel with
  | zero =>
    intro left listed a w hl hn hleft hinv
    have hnil : left = [] := List.eq_nil_of_length_eq_zero hl
    subst hnil
    rw [Nat.zero_add]
    refine hQ listed a w hinv fun j hj => ?_
    constructor
    · intro h
      rcases Nat.lt_or_ge j p with h2 | h2
      · exact h2
      · rw [hinv.suf j h2 hj] at h; cases h
    · intro h
      cases hb : listed.getD j true with
      | true => rfl
      | false => exact absurd ((hleft j).2 ⟨h, hb⟩) (by simp)
  | succ fuel ih =>
    intro left listed a w hl hn hleft hinv
    have hex : ∃ i, i ∈ left := by
      cases left with
      | nil => simp at hl
      | cons i l => exact ⟨i, by simp⟩
    rw [show fuel + 1 + (ops.toList.drop p).length = fuel + (ops.toList.drop p).length + 1 by omega]
    refine ⟨fun hempty => ?_, fun i hi => ?_⟩
    · exfalso
      obtain ⟨i0, hi0⟩ := hex
      have hmin : ∃ i, i ∈ left ∧ ∀ j, j < i → j ∉ left := by
        have key : ∀ n i, i ≤ n → i ∈ left → ∃ i, i ∈ left ∧ ∀ j, j < i → j ∉ left := by
          intro n
          induction n with
          | zero => intro i hi him; exact ⟨i, him, fun j hj => by omega⟩
          | succ n ihn =>
            intro i hi him
            by_cases h : ∃ j, j < i ∧ j ∈ left
            · obtain ⟨j, hj, hjm⟩ := h
              exact ihn j (by omega) hjm
            · exact ⟨i, him, fun j hj hjm => h ⟨j, hj, hjm⟩⟩
        exact key i0 i0 (Nat.le_refl _) hi0
      obtain ⟨i, him, hmini⟩ := hmin
      obtain ⟨hlt, hun⟩ := (hleft i).1 him
      obtain ⟨o, ho⟩ : ∃ o, ops[i]? = some o := ⟨_, Array.getElem?_eq_getElem (by omega)⟩
      have ho' : ops.toList[i]? = some o := by rw [← ho]; simp
      have hready : i ∈ Region.ready .any ops listed := by
        refine mem_ready.2 ⟨hun, o, ho, fun e he hb => ?_⟩
        have hon := (draw_spec (all := ops) (n := 0) hst.draw i o ho').1 e he hb
        simp only [Nat.zero_add] at hon
        have hnl : e.on ∉ left := hmini _ hon
        have htrue : listed.getD e.on true = true := by
          cases hb2 : listed.getD e.on true with
          | true => rfl
          | false => exact absurd ((hleft _).2 ⟨by omega, hb2⟩) hnl
        have hls : e.on < listed.size := by rw [hinv.lsize]; omega
        simp [Array.getD, hls] at htrue ⊢
        exact htrue
      rw [hempty] at hready
      cases hready
    · obtain ⟨h1, o, ho, hall⟩ := mem_ready.1 hi
      have ho' : ops.toList[i]? = some o := by rw [← ho]; simp
      have hlt := lt_size ho'
      have hip : i < p := by
        rcases Nat.lt_or_ge i p with h2 | h2
        · exact h2
        · exfalso
          obtain ⟨j, hj⟩ := hex
          obtain ⟨hjp, hju⟩ := (hleft j).1 hj
          have := anc_ready hinv.down (hst.behind i o ho' h2 j (by omega)) ho' (fun e he hb => getD_false (hall e he hb))
          rw [hju] at this
          cases this
      have him : i ∈ left := (hleft i).2 ⟨hip, h1⟩
      refine invL_step hT hst hpath1 hpath2 hm1 hm2 hla hly hsl hrow hi0 hsub hvr hg hng hinv hi hip fun a2 w2 hinv' => ih (left.erase i) _ a2 w2 ?_ (hn.erase i) (fun j => ?_) hinv'
      · rw [List.length_erase_of_mem him, hl]; rfl
      · rw [hn.mem_erase_iff, hleft j, getD_listed (by rw [hinv.lsize]; exact hlt)]
        constructor
        · rintro ⟨hne, h2, h3⟩; exact ⟨h2, by rw [if_neg (Ne.symm hne)]; exact h3⟩
        · rintro ⟨h2, h3⟩
          split at h3
          · cases h3
          · rename_i e; exact ⟨Ne.symm e, h2, h3⟩

/-- **A DRAWN REGION WITH A WRITE TO A SLICE OF ROWS THAT SOME DON'T WAIT FOR.** -/
theorem drawnL_ok (hT : TOK P T) (hG : GOKs P G) {ops : Array Oper} (hd : drawOk ops = true) {is1 p : Nat} {Q : Exit → Act → World → Prop} {out : Out} {k : St → Option Nat → R} {id : Nat} {s : St} {M : Option Nat} {a : Act} {w : World} {ρ : List Value}
    (h : drawnL T G nt ops is1 p s M k = some out) (hs : SRu Pr w0 cargs nt M s a w ρ) (hQ : ∀ s' M' a' w' ρ', k s' M' = some out → SRu Pr w0 cargs nt M' s' a' w' ρ' → Q .normal a' w') : (Code.region id ops true).wp P Q a w := by
  unfold drawnL at h
  split at h
  · cases h
  · rename_i tm _
    split at h
    · rename_i r e π o htm ho
      split at h
      · rename_i t a0 y0 hop hdst hgd
        cases hsg : statS ops is1 p (ancsAt ops is1) with
        | false => rw [hsg] at h; cases h
        | true =>
          rw [hsg] at h
          simp only [cond_true] at h
          have hst := statS_ok hd ⟨o, ho, hop, hdst, hgd⟩ hsg
          obtain ⟨avs1, s1, hpath1, h⟩ := opsK_path hT _ _ h
          have hH1 : s1.H = s.H := hpath1.heap
          split at h
          · rename_i r1 e1 π1 i0 j0 r' hla hly _
            split at h
            · rename_i e0 row hsl hrow
              cases hc : (Nat.beq r r' && (decide (i0 < π.length) && allM r e π s1.sl)) with
              | false => rw [hc] at h; cases h
              | true =>
                rw [hc] at h
                rw [Bool.and_eq_true, Bool.and_eq_true] at hc
                obtain ⟨c1, c2, c3⟩ := hc
                have := Nat.eq_of_beq_eq_true c1
                subst this
                simp only [cond_true] at h
                obtain ⟨avs2, s2, hpath2, h⟩ := opsK_path hT _ _ h
                cases hm2 : allM r e (hidden π) s2.sl with
                | false => rw [hm2] at h; cases h
                | true =>
                  rw [hm2] at h
                  simp only [cond_true] at h
                  have hH2 : s2.H = s.H := hpath2.heap.trans hH1
                  rw [hH1] at hpath2 hrow
                  obtain ⟨Pr', w1, h1, h2, h3, h4, h5⟩ := hs
                  obtain ⟨vr, g, b1, b2, b3, b4⟩ := h5 r rfl
                  have hpl : p ≤ ops.size := by simpa using hst.pl
                  have hsame : Same w { w with drawn := w.drawn + 1 } := Same.drew w
                  have hpw : ∀ k, Pr' k → k < ({ w with drawn := w.drawn + 1 } : World).heap.size := h4.lt h2
                  have hH : HR ({ w with drawn := w.drawn + 1 } : World) Pr' ρ s.H := h4.heap.keep hsame.block
                  have hdl : (ops.toList.drop p).length = ops.size - p := by simp
                  have hfalse : ∀ (j : Nat), (Array.replicate ops.size false).getD j true = true → j < ops.size → False := by
                    intro j h1 h2
                    simp [Array.getD, h2] at h1
                  have hi1 : is1 < ops.size := lt_size ho
                  have hMR : MR ({ w with drawn := w.drawn + 1 } : World) Pr' ρ r e π := by
                    have : FVR w Pr' ρ cargs (.mv r e π) (a.tmps.getD tm undef) := h4.slots tm _ htm
                    exact this.2.keep (fun k hk => rfl) fun _ _ h => h
                  refine wp_region_any hT.mo ?_
                  have start : InvL Pr Pr' ({ w with drawn := w.drawn + 1 } : World) ρ nt ops p is1 r e π (π.set i0 (some j0)) (ancsAt ops is1) s.H (clean (keepM r e π) [] s.sl) avs1 avs2 (Array.replicate ops.size false) a { w with drawn := w.drawn + 1 } :=
                    ⟨h4.size, h4.defers, by simp, hpw, Keep.refl _ _, hH, fun j o av u hj ha hl hd => (hfalse j hl (lt_size (frontM_real hj hd).2.1)).elim, fun j o av u hj ha hl hd => (hfalse j hl (lt_size (frontM_real hj hd).2.1)).elim, fun u v hv _ => by
                      obtain ⟨_, v0, d1, d2⟩ := clean_lk hv
                      obtain ⟨q1, q2, q3, q4⟩ := keepM_spec d2
                      exact q3 _ _ (VFA.of q1 (h4.slots u v0 d1)), fun j o hj hl => (hfalse j hl (lt_size hj)).elim, fun i _ h2 => by simp [Array.getD, h2], fun _ => hMR, fun hl => (hfalse _ hl hi1).elim⟩
                  have all0 : ∀ i, i ∈ List.range p ↔ i < p ∧ (Array.replicate ops.size false).getD i true = false := by
                    intro i
                    rw [List.mem_range]
                    constructor
                    · intro hi
                      have : i < ops.size := by omega
                      exact ⟨hi, by simp [Array.getD, this]⟩
                    · exact fun h => h.1
                  have main := invL_any (Q := Q) hT hst hpath1 hpath2 c3 hm2 hla hly hsl hrow (of_decide_eq_true c2) h1 b1 b2 b4 (fun listed a2 w2 hinv hlist => ?_) p (List.range p) _ a _ (by simp) List.nodup_range all0 start
                  · rwa [show p + (ops.toList.drop p).length = ops.size by rw [hdl]; omega] at main
                  · have hl : ∀ j, j < p → listed.getD j true = true := fun j hj => (hlist j (by omega)).2 hj
                    have hM1 := hinv.m1 ((hlist is1 hi1).2 hst.lt)
                    have hs3 : SRu Pr w0 cargs nt (some r) ⟨clean (keepM r e (π.set i0 (some j0))) [] s2.sl, s2.H⟩ a2 w2 ρ := by
                      refine ⟨Pr', w2, h1, hinv.bnd, (h3.trans (h4.keep.mono h1)).trans ((Keep.of_below hsame fun k hk => h4.lt h2 k (h1 k hk)).trans hinv.keep), ⟨hinv.size, hinv.defers, fun u v hv => ?_, by rw [hH2]; exact hinv.heap, Keep.refl _ _⟩, h5⟩
                      obtain ⟨_, v0, d1, d2⟩ := clean_lk hv
                      obtain ⟨q1, q2, q3, q4⟩ := keepM_spec d2
                      refine VFA.to q2 (q3 _ _ ?_) (q4 _ _ _ hM1)
                      rcases hpath2.final d1 with ⟨j, o', f1, f2, f3⟩ | ⟨f1, f2⟩
                      · exact hinv.doneB j o' v0 u f1 f3 (hl j (frontM_real f1 f2).1) f2
                      · obtain ⟨_, v1, d3, d4⟩ := clean_lk f1
                        obtain ⟨p1, p2, p3, p4⟩ := keepM_spec d4
                        refine p3 _ _ ?_
                        rcases hpath1.final d3 with ⟨j, o', g1, g2, g3⟩ | ⟨g1, g2⟩
                        · exact hinv.doneA j o' v1 u g1 g3 (hl j (frontM_real g1 g2).1) g2
                        · refine hinv.still u v1 g1 fun j o' hjp hj hd => ?_
                          exfalso
                          by_cases hjs : j = is1
                          · subst hjs
                            rw [ho] at hj
                            cases hj
                            rw [hdst] at hd
                            cases hd
                          · by_cases hjA : j ∈ ancsAt ops is1
                            · refine g2 j o' (frontM_of hjp hj fun hm => ?_) hd
                              rcases List.mem_cons.1 hm with h9 | h9
                              · exact hjs h9
                              · exact (rest_mem.1 h9).2.1 hjA
                            · refine f2 j o' (frontM_of hjp hj fun hm => ?_) hd
                              rcases List.mem_cons.1 hm with h9 | h9
                              · exact hjs h9
                              · exact hjA h9
                    have hlen : ((ops.toList.take ops.toList.length).drop p).length = ops.size - p := by simp
                    have := turnU_ok (Q := Q) (p := p) (q := ops.toList.length) hT hG hd (fun i o ho hp j hj _ => hst.behind i o ho hp j hj) (by simp) ((ops.toList.take ops.toList.length).drop p) p _ (some r) listed a2 w2 ρ rfl (Nat.le_refl _) (by rw [hlen]; simp; omega) hinv.lsize hlist h hs3 fun s' M' listed' a' w' ρ' hk' hs' hsz' hl' => by
                      rw [show ops.size - ops.toList.length = 0 by simp]
                      refine ⟨?_, hQ s' M' a' w' ρ' hk' hs'⟩
                      apply List.eq_nil_iff_forall_not_mem.2
                      intro z hz
                      obtain ⟨z1, o', zo, _⟩ := mem_ready.1 hz
                      have hz' : z < ops.size := lt_size (o := o') (by rw [← zo]; simp)
                      rw [(hl' z hz').2 (by simpa using hz')] at z1
                      cases z1
                    rw [hlen, show ops.size - ops.toList.length = 0 by simp, Nat.add_zero] at this
                    rwa [hdl]
            · cases h
          · cases h
      · cases h
    · cases h

end
end Go.Sm

