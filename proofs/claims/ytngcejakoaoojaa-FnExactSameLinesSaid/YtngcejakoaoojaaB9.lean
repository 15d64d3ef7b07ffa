/- The types' table of a program, looked through once. -/
import Derived.Test.YtngcejakoaoojaaB8
namespace Go.Sm
open Go Go.RowKit

def look {α : Type} : List (Nat × α) → Nat → Option α
  | [], _ => none
  | x :: l, n => bif Nat.beq x.1 n then some x.2 else look l n

structure Tab where
  sls : List (Nat × Nat)
  eks : List (Nat × K)
  nks : List (Nat × NK)

def Tab.fo (b : Tab) (t f : Nat) : Option Nat :=
  match look b.eks t with
  | some k => bif k.agg && Nat.blt f k.sz then some f else none
  | none => none

abbrev SFn := Nat → List FV → (List RV → R) → R
abbrev MFn := Nat → Vec → List FV → (List RV → Vec → R) → R

/-- The table with what is known of the callees. -/
def Tab.T (b : Tab) (S : SFn) (mutf : Nat → Bool) (M : MFn) : TT := ⟨look b.sls, look b.eks, b.fo, look b.nks, mutf, S, M⟩

def descB : NK → TypeDesc → Bool
  | .bool, .bool => true
  | .int k, .int k' => decide (k = k')
  | .float k, .float k' => decide (k = k')
  | .complex k, .complex k' => decide (k = k')
  | _, _ => false

def scB : SC → Value → Bool
  | .int k n, .int k' n' => decide (k = k') && decide (n = n')
  | .bo b, .bool b' => b == b'
  | .fl k c, .float k' b => decide (k = k') && Nat.beq b c && !isN k b
  | .cx k c d, .complex k' a b => decide (k = k') && (Nat.beq a c && !isN k a) && (Nat.beq b d && !isN k b)
  | _, _ => false

def scsB : List SC → List Value → Bool
  | [], [] => true
  | s :: ss, v :: vs => scB s v && scsB ss vs
  | _, _ => false

def elB : Elt → Value → Bool
  | .sc s, v => scB s v
  | .ag cs, .agg vs => scsB cs vs.toList
  | _, _ => false

def slB (P : Program) (t e : Nat) : Bool :=
  match P.underlying t with
  | some (.slice e') => Nat.beq e e'
  | _ => false

/-- The fields of a struct: a cell each. -/
def fieldsB (P : Program) : Nat → List Field → List NK → Bool
  | _, [], [] => true
  | i, f :: fs, n :: ns => Nat.beq f.offset i && (match P.info? f.type, P.underlying f.type with
    | some j, some d => Nat.beq j.size 1 && descB n d
    | _, _ => false) && fieldsB P (i + 1) fs ns
  | _, _, _ => false

def ekB (P : Program) (t : Nat) (k : K) : Bool :=
  match P.info? t, P.underlying t with
  | some i, some d => Nat.beq i.size k.sz && (match i.zero with
    | some z => elB (k.f k.z) z
    | none => false) && Nat.ble i.bytes 64 && (aggD d == k.agg) && (match k.agg, d with
    | true, .struct fs => fieldsB P 0 fs.toList k.nks
    | true, _ => false
    | false, d => match k.nks with
      | [n] => descB n d
      | _ => decide (k = .c64) && descB (.complex .f32) d)
  | _, _ => false

def nkB (P : Program) (t : Nat) (n : NK) : Bool :=
  match P.underlying t with
  | some d => descB n d
  | none => false

def tabB (P : Program) (b : Tab) : Bool :=
  P.follows .mixedOrders && b.sls.all (fun x => slB P x.1 x.2) && b.eks.all (fun x => ekB P x.1 x.2) && b.nks.all (fun x => nkB P x.1 x.2)

theorem look_mem {α : Type} : ∀ {l : List (Nat × α)} {n : Nat} {a : α}, look l n = some a → (n, a) ∈ l
  | [], _, _, h => by cases h
  | (m, b) :: l, n, a, h => by
    unfold look at h
    cases hb : Nat.beq m n with
    | true =>
      rw [hb] at h
      cases h
      rw [Nat.eq_of_beq_eq_true hb]
      exact .head _
    | false =>
      rw [hb] at h
      exact .tail _ (look_mem h)

theorem descB_ok {n : NK} {d : TypeDesc} (h : descB n d = true) : d = n.desc := by
  unfold descB at h
  split at h
  · rfl
  · rw [of_decide_eq_true h]; rfl
  · rw [of_decide_eq_true h]; rfl
  · rw [of_decide_eq_true h]; rfl
  · cases h

theorem scB_ok {s : SC} {v : Value} (h : scB s v = true) : SCR s v := by
  unfold scB at h
  split at h
  · rw [Bool.and_eq_true] at h
    rw [of_decide_eq_true h.1, of_decide_eq_true h.2]
    exact rfl
  · rw [eq_of_beq h]; exact rfl
  · rw [Bool.and_eq_true, Bool.and_eq_true] at h
    rename_i k c k' b
    have h1 := of_decide_eq_true h.1.1
    have h2 := Nat.eq_of_beq_eq_true h.1.2
    subst h1 h2
    exact ⟨b, rfl, cn_num (by simpa using h.2)⟩
  · rw [Bool.and_eq_true, Bool.and_eq_true, Bool.and_eq_true, Bool.and_eq_true] at h
    rename_i k c d k' a b
    have h1 := of_decide_eq_true h.1.1
    have h2 := Nat.eq_of_beq_eq_true h.1.2.1
    have h3 := Nat.eq_of_beq_eq_true h.2.1
    subst h1 h2 h3
    exact ⟨a, b, rfl, cn_num (by simpa using h.1.2.2), cn_num (by simpa using h.2.2)⟩
  · cases h

theorem scsB_ok : ∀ {ss : List SC} {vs : List Value}, scsB ss vs = true → AllR SCR ss vs
  | [], [], _ => trivial
  | s :: ss, v :: vs, h => by
    unfold scsB at h
    rw [Bool.and_eq_true] at h
    exact ⟨scB_ok h.1, scsB_ok h.2⟩
  | [], _ :: _, h => by cases h
  | _ :: _, [], h => by cases h

theorem elB_ok {e : Elt} {v : Value} (h : elB e v = true) : ElR e v := by
  unfold elB at h
  split at h
  · exact scB_ok h
  · exact ⟨_, by simp, scsB_ok h⟩
  · cases h

theorem aggD_desc (n : NK) : aggD n.desc = false := by cases n <;> rfl

section
variable {P : Program}

theorem fieldsB_ok : ∀ {i : Nat} {fs : List Field} {ns : List NK}, fieldsB P i fs ns = true → fs.length = ns.length ∧ ∀ (j : Nat) (f : Field), fs[j]? = some f →
    f.offset = i + j ∧ ∃ q n, P.info? f.type = some q ∧ q.size = 1 ∧ ns[j]? = some n ∧ P.underlying f.type = some n.desc
  | i, [], [], _ => ⟨rfl, fun j f h => by simp at h⟩
  | i, f :: fs, n :: ns, h => by
    unfold fieldsB at h
    rw [Bool.and_eq_true, Bool.and_eq_true] at h
    obtain ⟨⟨h1, h2⟩, h3⟩ := h
    obtain ⟨h4, h5⟩ := fieldsB_ok h3
    refine ⟨by simp [h4], fun j g hj => ?_⟩
    cases j with
    | zero =>
      simp at hj
      subst hj
      split at h2
      · rename_i q d hq hd
        rw [Bool.and_eq_true] at h2
        exact ⟨Nat.eq_of_beq_eq_true h1, q, n, hq, Nat.eq_of_beq_eq_true h2.1, rfl, by rw [hd, descB_ok h2.2]⟩
      · cases h2
    | succ j =>
      obtain ⟨h6, h7⟩ := h5 j g (by simpa using hj)
      exact ⟨by omega, by simpa using h7⟩
  | _, [], _ :: _, h => by cases h
  | _, _ :: _, [], h => by cases h

structure TStat (P : Program) (T : TT) : Prop where
  mo : P.follows .mixedOrders = true
  sl : ∀ t e, T.sl t = some e → P.underlying t = some (.slice e)
  ek : ∀ t k, T.ek t = some k → ∃ i z d, P.info? t = some i ∧ i.size = k.sz ∧ i.zero = some z ∧ ElR (k.f k.z) z ∧ i.bytes ≤ 64 ∧ P.underlying t = some d ∧
    aggD d = k.agg
  fo : ∀ t f o, T.fo t f = some o → ∃ fs fd i d, P.underlying t = some (.struct fs) ∧ fs[f]? = some fd ∧ fd.offset = o ∧ P.info? fd.type = some i ∧ i.size = 1 ∧
    P.underlying fd.type = some d ∧ aggD d = false
  bd : ∀ t k, T.ek t = some k → k.agg = true → ∃ (fs : Array Field) (places : Array (Nat × Nat)), P.underlying t = some (.struct fs) ∧
    (∀ w : World, (fs.mapM fun f => (do pure (f.offset, ← sizeOf f.type) : Sem (Nat × Nat))).run P w = .ok places w) ∧ ∀ f o, T.fo t f = some o → places[f]? = some (o, 1) ∧ o < k.sz
  nk : ∀ t n, T.nk t = some n → P.underlying t = some n.desc

theorem TStat.tok {T : TT} (h : TStat P T) (hS : ∀ f args k out, T.S f args k = some out → ∃ rs, CallOK P f args rs ∧ k rs = some out)
    (hM : ∀ f vec args k out, T.M f vec args k = some out → ∃ rs vec', Real P f ∧ CMOK P f vec args rs vec' ∧ k rs vec' = some out) : TOK P T :=
  ⟨h.mo, h.sl, h.ek, h.fo, h.bd, h.nk, hS, hM⟩

theorem ekB_spec {t : Nat} {k : K} (h : ekB P t k = true) : (∃ i z d, P.info? t = some i ∧ i.size = k.sz ∧ i.zero = some z ∧ ElR (k.f k.z) z ∧ i.bytes ≤ 64 ∧ P.underlying t = some d ∧ aggD d = k.agg) ∧
    (k.agg = true → ∃ fs : Array Field, P.underlying t = some (.struct fs) ∧ fieldsB P 0 fs.toList k.nks = true) ∧ (k.agg = false → k ≠ .c64 → ∃ n, k.nks = [n] ∧ P.underlying t = some n.desc) := by
  unfold ekB at h
  split at h
  · rename_i i d hi hd
    rw [Bool.and_eq_true, Bool.and_eq_true, Bool.and_eq_true, Bool.and_eq_true] at h
    obtain ⟨⟨⟨⟨h1, h2⟩, h3⟩, h4⟩, h5⟩ := h
    split at h2
    · rename_i z hz
      refine ⟨⟨i, z, d, hi, Nat.eq_of_beq_eq_true h1, hz, elB_ok h2, Nat.le_of_ble_eq_true h3, hd, eq_of_beq h4⟩, fun ha => ?_, fun ha hc => ?_⟩
      · rw [ha] at h5
        split at h5
        · rename_i fs _; exact ⟨fs, hd, h5⟩
        · cases h5
        · exact absurd ‹true = false› (by decide)
      · rw [ha] at h5
        split at h5
        · exact absurd ‹false = true› (by decide)
        · exact absurd ‹false = true› (by decide)
        · split at h5
          · rename_i n hn; exact ⟨n, hn, by rw [hd, descB_ok h5]⟩
          · rw [Bool.and_eq_true] at h5
            exact absurd (of_decide_eq_true h5.1) hc
    · cases h2
  · cases h

theorem mapM_runs {α β : Type} {w : World} (g : α → Sem β) (h : α → β) : ∀ (l : List α), (∀ a ∈ l, (g a).run P w = .ok (h a) w) → (l.mapM g).run P w = .ok (l.map h) w
  | [], _ => by simp
  | a :: l, hall => by
    rw [List.mapM_cons, Sem.run_bind, hall a (by simp), Result.andThen_ok, Sem.run_bind, mapM_runs g h l (fun b hb => hall b (by simp [hb]))]
    rfl

theorem nks_len {k : K} (h : k.agg = true) : k.nks.length = k.sz := by cases k <;> first | rfl | cases h

theorem tab_ok {b : Tab} {S : SFn} {mutf : Nat → Bool} {M : MFn} (h : tabB P b = true) : TStat P (b.T S mutf M) := by
  unfold tabB at h
  rw [Bool.and_eq_true, Bool.and_eq_true, Bool.and_eq_true, List.all_eq_true, List.all_eq_true, List.all_eq_true] at h
  obtain ⟨⟨⟨h1, h2⟩, h3⟩, h4⟩ := h
  have hek : ∀ t k, look b.eks t = some k → ekB P t k = true := fun t k hk => h3 _ (look_mem hk)
  refine ⟨h1, fun t e he => ?_, fun t k hk => (ekB_spec (hek t k hk)).1, fun t f o ho => ?_, fun t k hk ha => ?_, fun t n hn => ?_⟩
  · have := h2 _ (look_mem (show look b.sls t = some e from he))
    unfold slB at this
    dsimp only at this
    split at this
    · rename_i e' he'
      rw [he', Nat.eq_of_beq_eq_true this]
    · cases this
  · have ho' : b.fo t f = some o := ho
    unfold Tab.fo at ho'
    split at ho'
    · rename_i k hk
      cases hc : k.agg && Nat.blt f k.sz with
      | false => rw [hc] at ho'; cases ho'
      | true =>
        rw [hc] at ho'
        cases ho'
        rw [Bool.and_eq_true] at hc
        obtain ⟨fs, hu, hf⟩ := (ekB_spec (hek t k hk)).2.1 hc.1
        obtain ⟨hl, hall⟩ := fieldsB_ok hf
        have hfl : f < fs.toList.length := by rw [hl, nks_len hc.1]; exact Nat.le_of_ble_eq_true hc.2
        obtain ⟨hoff, q, n, hq, hsz, _, hun⟩ := hall f _ (List.getElem?_eq_getElem hfl)
        exact ⟨fs, fs.toList[f], q, n.desc, hu, by simp, by omega, hq, hsz, hun, aggD_desc n⟩
    · cases ho'
  · have hk' : look b.eks t = some k := hk
    obtain ⟨fs, hu, hf⟩ := (ekB_spec (hek t k hk')).2.1 ha
    obtain ⟨hl, hall⟩ := fieldsB_ok hf
    refine ⟨fs, (fs.toList.map fun f => (f.offset, 1)).toArray, hu, fun w => ?_, fun f o ho => ?_⟩
    · rw [Array.mapM_eq_mapM_toList]
      have := mapM_runs (P := P) (w := w) (fun f => (do pure (f.offset, ← sizeOf f.type) : Sem (Nat × Nat))) (fun f => (f.offset, 1)) fs.toList (fun f hf => by
        obtain ⟨j, hj⟩ := List.getElem?_of_mem hf
        obtain ⟨_, q, n, h1, h2, _⟩ := hall j f hj
        simp [sizeOf, typeInfo, h1, h2])
      rw [map_eq_pure_bind, Sem.run_bind, this]
      rfl
    · have ho' : b.fo t f = some o := ho
      unfold Tab.fo at ho'
      rw [hk'] at ho'
      dsimp only at ho'
      cases hc : k.agg && Nat.blt f k.sz with
      | false => rw [hc] at ho'; cases ho'
      | true =>
        rw [hc] at ho'
        cases ho'
        rw [Bool.and_eq_true] at hc
        have hlt : f < k.sz := Nat.le_of_ble_eq_true hc.2
        have hfl : f < fs.toList.length := by rw [hl, nks_len ha]; exact hlt
        obtain ⟨hoff, _⟩ := hall f _ (List.getElem?_eq_getElem hfl)
        refine ⟨?_, hlt⟩
        have hfs : f < fs.size := by simpa using hfl
        simp [hfs]
        simpa using hoff
  · have := h4 _ (look_mem (show look b.nks t = some n from hn))
    unfold nkB at this
    dsimp only at this
    split at this
    · rename_i d hd
      rw [hd, descB_ok this]
    · cases this

/-- The row of a kind of argument. -/
theorem krow {t : Nat} {k : K} (hk : k ≠ .c64) (h : ekB P t k = true) : KRow P t k := by
  obtain ⟨⟨i, z, d, hi, hsz, _⟩, h2, h3⟩ := ekB_spec h
  refine ⟨by simp [Program.cellsOf, hi, hsz], ?_⟩
  cases ha : k.agg with
  | true =>
    obtain ⟨fs, hu, hf⟩ := h2 ha
    obtain ⟨hl, hall⟩ := fieldsB_ok hf
    refine ⟨fs, hu, by rw [← nks_len ha, ← hl]; simp, nks_len ha, fun j n hn => ?_⟩
    have hj : j < fs.toList.length := by
      rw [hl]
      rcases Nat.lt_or_ge j k.nks.length with h' | h'
      · exact h'
      · rw [List.getElem?_eq_none h'] at hn; cases hn
    obtain ⟨hoff, q, n', hq, hs, hn', hu'⟩ := hall j _ (List.getElem?_eq_getElem hj)
    rw [hn] at hn'
    cases hn'
    exact ⟨fs.toList[j], by simp, by omega, by rw [Program.cellsOf, hq]; simpa using hs, hu'⟩
  | false =>
    obtain ⟨n, hn, hu⟩ := h3 ha hk
    exact ⟨n, hn, hu⟩

def AK.rowB (P : Program) : AK → Nat → Bool
  | .sc n, t => nkB P t n && (match n with
    | .complex _ => false
    | _ => true)
  | .ag k, t => !decide (k = .c64) && k.agg && ekB P t k
  | .sl k, t => !decide (k = .c64) && (match P.underlying t with
    | some (.slice e) => ekB P e k
    | _ => false)

def rowsB (P : Program) : List AK → List Nat → Bool
  | [], [] => true
  | a :: as, t :: ts => a.rowB P t && rowsB P as ts
  | _, _ => false

theorem rowB_ok {a : AK} {t : Nat} (h : a.rowB P t = true) : a.row P t := by
  cases a with
  | sc n =>
    simp only [AK.rowB, Bool.and_eq_true] at h
    refine ⟨?_, fun q e => ?_⟩
    · have := h.1
      unfold nkB at this
      split at this
      · rename_i d hd; rw [hd, descB_ok this]
      · cases this
    · subst e; cases h.2
  | ag k =>
    simp only [AK.rowB, Bool.and_eq_true] at h
    have hk : k ≠ .c64 := by simpa using h.1.1
    exact ⟨hk, h.1.2, krow hk h.2⟩
  | sl k =>
    simp only [AK.rowB, Bool.and_eq_true] at h
    have hk : k ≠ .c64 := by simpa using h.1
    have h2 := h.2
    split at h2
    · rename_i e he
      exact ⟨hk, e, he, krow hk h2⟩
    · cases h2

theorem rowsB_ok : ∀ {as : List AK} {ts : List Nat}, rowsB P as ts = true → AllR (AK.row P) as ts
  | [], [], _ => trivial
  | a :: as, t :: ts, h => by
    simp only [rowsB, Bool.and_eq_true] at h
    exact ⟨rowB_ok h.1, rowsB_ok h.2⟩
  | [], _ :: _, h => by cases h
  | _ :: _, [], h => by cases h
end
end Go.Sm
