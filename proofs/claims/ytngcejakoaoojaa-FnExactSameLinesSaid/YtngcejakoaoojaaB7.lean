/- A law's arguments as plain data; a law that always says true keeps its row. -/
import Derived.Test.YtngcejakoaoojaaB6
import Derived.Carry
import Derived.SizedLaws
import Derived.ProofKit
import Derived.Laws.Cover2
import Derived.Deep.Slices
namespace Go.Sm
open Go Go.RowKit Go.ChangeShapes Go.WideShapes Go.Deep

def NK.fits : NK → SC → Prop
  | .bool, .bo _ => True
  | .int k, .int k' n => k' = k ∧ k.min ≤ n ∧ n ≤ k.max
  | .float .f32, .fl k' c => k' = .f32 ∧ cn .f32 c = c ∧ c < 2 ^ 32
  | .float .f64, .fl k' c => k' = .f64 ∧ cn .f64 c = c ∧ c < 2 ^ 64
  | _, _ => False

def K.nks : K → List NK
  | .f32 => [.float .f32]
  | .f64 => [.float .f64]
  | .i64 => [.int .i64]
  | .bo => [.bool]
  | .u8 => [.int .u8]
  | .c64 => []
  | .line => [.float .f32, .float .f32, .float .f32, .int .i64]
  | .edge => [.int .i64, .int .i64, .float .f32]
  | .pulse => [.float .f32, .float .f32, .float .f32, .float .f32]

def K.wf (k : K) (a : k.ty) : Prop := AllR NK.fits k.nks (k.f a).cells

/-- The type's row in the program's table. -/
def KRow (P : Program) (t : Nat) (k : K) : Prop :=
  P.cellsOf t = k.sz ∧ bif k.agg then (∃ fs : Array Field, P.underlying t = some (.struct fs) ∧ fs.size = k.sz ∧ k.nks.length = k.sz ∧
    ∀ (i : Nat) (n : NK), k.nks[i]? = some n → ∃ f : Field, fs[i]? = some f ∧ f.offset = i ∧ P.cellsOf f.type = 1 ∧ P.underlying f.type = some n.desc)
  else (∃ n, k.nks = [n] ∧ P.underlying t = some n.desc)

section
variable {H : Type} {enc : TypeId × Value → H} {P : Program} {w : World} {base : Nat} {spare : Nat → Bool} {held : Bool}

theorem cn_lt32 {b : Nat} (h : b < 2 ^ 32) : cn .f32 b < 2 ^ 32 := by
  unfold cn
  cases isN .f32 b with
  | true => show (2143289344 : Nat) < 2 ^ 32; decide
  | false => exact h
theorem cn_lt64 {b : Nat} (h : b < 2 ^ 64) : cn .f64 b < 2 ^ 64 := by
  unfold cn
  cases isN .f64 b with
  | true => show (9221120237041090560 : Nat) < 2 ^ 64; decide
  | false => exact h

theorem trod_float' {t fuel : Nat} {k : FloatKind} {cs : List Value} {x : DataW H × List MemPlace} (ht : P.underlying t = some (.float k)) (h : DataW.trod enc P w base spare held fuel t cs = some x) : ∃ b, cs = [.float k b] ∧ (Lit.float k b).wf = true := by
  cases fuel with
  | zero => simp [DataW.trod] at h
  | succ n =>
    unfold DataW.trod at h
    rw [ht] at h
    split at h <;> simp_all

theorem open_cell {t fuel : Nat} {n : NK} {cs : List Value} {x : DataW H × List MemPlace} (ht : P.underlying t = some n.desc) (hc : ∀ k, n ≠ .complex k) (h : DataW.trod enc P w base spare held fuel t cs = some x) : ∃ v s, cs = [v] ∧ n.fits s ∧ SCR s v := by
  cases n with
  | bool =>
    obtain ⟨b, rfl, _⟩ := DataW.trod_bool ht h
    exact ⟨_, .bo b, rfl, trivial, rfl⟩
  | int k =>
    obtain ⟨m, rfl, _, hw⟩ := DataW.trod_int ht h
    simp only [Lit.wf, Bool.and_eq_true, decide_eq_true_eq] at hw
    exact ⟨_, .int k m, rfl, ⟨rfl, hw.1, hw.2⟩, rfl⟩
  | float k =>
    obtain ⟨b, rfl, hw⟩ := trod_float' ht h
    cases k with
    | f32 =>
      simp only [Lit.wf, decide_eq_true_eq] at hw
      exact ⟨_, .fl .f32 (cn .f32 b), rfl, ⟨rfl, cn_cn _ _, cn_lt32 hw⟩, b, rfl, rfl⟩
    | f64 =>
      simp only [Lit.wf, decide_eq_true_eq] at hw
      exact ⟨_, .fl .f64 (cn .f64 b), rfl, ⟨rfl, cn_cn _ _, cn_lt64 hw⟩, b, rfl, rfl⟩
  | complex k => exact absurd rfl (hc k)

theorem assemble (k : K) (hk : k ≠ .c64) {ss : List SC} (h : AllR NK.fits k.nks ss) : ∃ a : k.ty, (k.f a).cells = ss := by
  have hf32 : ∀ s, NK.fits (.float .f32) s → ∃ c, s = .fl .f32 c := by
    intro s hs
    cases s with
    | fl q c => exact ⟨c, by rw [hs.1]⟩
    | int _ _ => exact hs.elim
    | bo _ => exact hs.elim
    | cx _ _ _ => exact hs.elim
  have hi : ∀ q s, NK.fits (.int q) s → ∃ n, s = .int q n := by
    intro q s hs
    cases s with
    | int q' n => exact ⟨n, by rw [hs.1]⟩
    | fl q c => exact hs.elim
    | bo _ => exact hs.elim
    | cx _ _ _ => exact hs.elim
  cases k with
  | f32 =>
    match ss, h with
    | [s], h => obtain ⟨c, rfl⟩ := hf32 s h.1; exact ⟨c, rfl⟩
  | f64 =>
    match ss, h with
    | [s], h =>
      cases s with
      | fl q c => have := h.1.1; subst this; exact ⟨c, rfl⟩
      | int _ _ => exact h.1.elim
      | bo _ => exact h.1.elim
      | cx _ _ _ => exact h.1.elim
  | i64 =>
    match ss, h with
    | [s], h => obtain ⟨c, rfl⟩ := hi _ s h.1; exact ⟨c, rfl⟩
  | u8 =>
    match ss, h with
    | [s], h => obtain ⟨c, rfl⟩ := hi _ s h.1; exact ⟨c, rfl⟩
  | bo =>
    match ss, h with
    | [s], h =>
      cases s with
      | bo b => exact ⟨b, rfl⟩
      | int _ _ => exact h.1.elim
      | fl _ _ => exact h.1.elim
      | cx _ _ _ => exact h.1.elim
  | c64 => exact absurd rfl hk
  | line =>
    match ss, h with
    | [a, b, c, d], h =>
      obtain ⟨a, rfl⟩ := hf32 a h.1
      obtain ⟨b, rfl⟩ := hf32 b h.2.1
      obtain ⟨c, rfl⟩ := hf32 c h.2.2.1
      obtain ⟨d, rfl⟩ := hi _ d h.2.2.2.1
      exact ⟨⟨a, b, c, d⟩, rfl⟩
  | edge =>
    match ss, h with
    | [a, b, c], h =>
      obtain ⟨a, rfl⟩ := hi _ a h.1
      obtain ⟨b, rfl⟩ := hi _ b h.2.1
      obtain ⟨c, rfl⟩ := hf32 c h.2.2.1
      exact ⟨⟨a, b, c⟩, rfl⟩
  | pulse =>
    match ss, h with
    | [a, b, c, d], h =>
      obtain ⟨a, rfl⟩ := hf32 a h.1
      obtain ⟨b, rfl⟩ := hf32 b h.2.1
      obtain ⟨c, rfl⟩ := hf32 c h.2.2.1
      obtain ⟨d, rfl⟩ := hf32 d h.2.2.2.1
      exact ⟨⟨a, b, c, d⟩, rfl⟩

theorem nks_plain (k : K) : ∀ (i : Nat) (n : NK), k.nks[i]? = some n → ∀ q : FloatKind, n ≠ NK.complex q := by
  intro i n h q e
  subst e
  cases k <;> simp [K.nks] at h <;> match i, h with
    | 0, h => simp at h
    | 1, h => simp at h
    | 2, h => simp at h
    | 3, h => simp at h
    | i + 4, h => simp at h

/-- An element's cells. -/
theorem open_elt {t fuel : Nat} {k : K} {cs : List Value} {x : DataW H × List MemPlace} (hk : k ≠ .c64) (hr : KRow P t k) (h : DataW.trod enc P w base spare held fuel t cs = some x) :
    ∃ a : k.ty, k.wf a ∧ AllR SCR (k.f a).cells cs := by
  obtain ⟨hcell, hrow⟩ := hr
  have main : ∃ ss, AllR NK.fits k.nks ss ∧ AllR SCR ss cs := by
    cases hagg : k.agg with
    | false =>
      rw [hagg] at hrow
      obtain ⟨n, hn, hu⟩ := hrow
      obtain ⟨v, s, rfl, h1, h2⟩ := open_cell hu (nks_plain k 0 n (by rw [hn]; rfl)) h
      exact ⟨[s], by rw [hn]; exact ⟨h1, trivial⟩, h2, trivial⟩
    | true =>
      rw [hagg] at hrow
      obtain ⟨fs, hu, hfs, hnl, hall⟩ := hrow
      obtain ⟨xs, n, _, _, hl, hxl, hf⟩ := DataW.trod_struct hu h
      have hlen : cs.length = k.nks.length := by rw [hl, hcell, hnl]
      have each : ∀ i, i < k.nks.length → ∃ s, ∃ q v, k.nks[i]? = some q ∧ cs[i]? = some v ∧ q.fits s ∧ SCR s v := by
        intro i hi
        obtain ⟨q, hq⟩ : ∃ q, k.nks[i]? = some q := ⟨_, List.getElem?_eq_getElem hi⟩
        obtain ⟨f, hfi, hoff, hone, huf⟩ := hall i q hq
        have h3 := hf i f hfi
        have hxi : ∃ y, xs[i]? = some y := ⟨_, List.getElem?_eq_getElem (by rw [hxl, hfs, ← hnl]; exact hi)⟩
        obtain ⟨y, hy⟩ := hxi
        rw [hy] at h3
        obtain ⟨v, s, hv, h4, h5⟩ := open_cell huf (nks_plain k i q hq) h3
        refine ⟨s, q, v, hq, ?_, h4, h5⟩
        have h6 : ((cs.drop f.offset).take (P.cellsOf f.type))[0]? = some v := by rw [hv]; rfl
        rw [hone, hoff, List.getElem?_take] at h6
        simpa using h6
      haveI : Inhabited SC := ⟨.bo false⟩
      obtain ⟨F, hF⟩ := choose_lt each
      refine ⟨(List.range k.nks.length).map F, AllR.of_get (by simp) fun i a b ha hb => ?_, AllR.of_get (by simp [hlen]) fun i a b ha hb => ?_⟩
      · have hi : i < k.nks.length := by
          rcases Nat.lt_or_ge i k.nks.length with h' | h'
          · exact h'
          · rw [List.getElem?_eq_none h'] at ha; cases ha
        obtain ⟨q, v, h1, h2, h3, h4⟩ := hF i hi
        rw [h1] at ha
        cases ha
        simp [hi] at hb
        subst hb
        exact h3
      · have hi : i < k.nks.length := by
          rcases Nat.lt_or_ge i k.nks.length with h' | h'
          · exact h'
          · simp [h'] at ha
        obtain ⟨q, v, h1, h2, h3, h4⟩ := hF i hi
        rw [h2] at hb
        cases hb
        simp [hi] at ha
        subst ha
        exact h4
  obtain ⟨ss, h1, h2⟩ := main
  obtain ⟨a, rfl⟩ := assemble k hk h1
  exact ⟨a, h1, h2⟩

@[reducible] def K.inh (k : K) : Inhabited k.ty := ⟨k.z⟩

theorem cells?_get {w : World} {base : Nat} {a : Addr} {n : Nat} {cs : List Value} (h : w.cells? base a n = some cs) : cs.length = n ∧ ∀ j, j < n → w.cell? (a.add j) = cs[j]? := by
  unfold World.cells? at h
  split at h
  · have key : ∀ (l : List Nat) (cs : List Value), (l.mapM fun i => w.cell? (a.add i)) = some cs → cs.length = l.length ∧ ∀ (j i : Nat), l[j]? = some i → w.cell? (a.add i) = cs[j]? := by
      intro l
      induction l with
      | nil => intro cs h; simp at h; subst h; exact ⟨rfl, fun j i h => by simp at h⟩
      | cons i l ih =>
        intro cs h
        rw [List.mapM_cons] at h
        simp only [Option.bind_eq_bind, Option.bind_eq_some_iff, Option.pure_def, Option.some.injEq] at h
        obtain ⟨v, hv, vs, hvs, rfl⟩ := h
        obtain ⟨h1, h2⟩ := ih vs hvs
        refine ⟨by simp [h1], fun j q hj => ?_⟩
        cases j with
        | zero => simp at hj; subst hj; simpa using hv
        | succ j => simpa using h2 j q (by simpa using hj)
    obtain ⟨h1, h2⟩ := key _ _ h
    refine ⟨by simpa using h1, fun j hj => h2 j j (by simp [hj])⟩
  · cases h

theorem cell?_lt {w : World} {a : Addr} {v : Value} (h : w.cell? a = some v) : a.block < w.heap.size := by
  unfold World.cell? at h
  cases hh : w.heap[a.block]? with
  | none => rw [hh] at h; simp at h
  | some o => exact (Array.getElem?_eq_some_iff.1 hh).1

/-- A slice that came in. -/
theorem open_sl {t e : Nat} {k : K} {v : Value} {d : DataW H} {ps : List MemPlace} (hk : k ≠ .c64) (ht : P.underlying t = some (.slice e)) (hr : KRow P e k) (hv : ∃ a l c, v = .slice a l c) (h : DataW.Trod enc P w base spare held t v d ps) :
    ∃ xs : List k.ty, (∀ a ∈ xs, k.wf a) ∧ VwR w (fun b => b < w.heap.size) v ⟨k, xs⟩ ∧ ((DataW.weights P t d).all (· ≤ reachBytes) = true → xs.length * P.bytesOf e ≤ reachBytes) := by
  obtain ⟨fuel, h⟩ := h
  obtain ⟨a0, l0, c0, rfl⟩ := hv
  have hcells : (Value.slice a0 l0 c0).cells.toList = [.slice a0 l0 c0] := rfl
  rw [hcells] at h
  rcases open_slice ht h with ⟨h1, hd⟩ | ⟨a, len, cap, m, n, D, Pl, h1, _, hl, _, hm, hd, hx⟩
  · simp only [List.cons.injEq, Value.slice.injEq, and_true] at h1
    obtain ⟨rfl, rfl, rfl⟩ := h1
    exact ⟨[], by simp, .inl ⟨rfl, rfl⟩, by simp⟩
  · simp only [List.cons.injEq, Value.slice.injEq, and_true] at h1
    obtain ⟨rfl, rfl, rfl⟩ := h1
    have hlm : l0 ≤ m := by rw [hm]; split <;> omega
    haveI := K.inh k
    obtain ⟨F, hF⟩ := choose_lt (n := l0) (p := fun i (b : k.ty) => k.wf b ∧ ∀ j s, (k.f b).cells[j]? = some s → ∃ u, w.cell? (a.add (i * k.sz + j)) = some u ∧ SCR s u) (fun i hi => by
      obtain ⟨cs', h2, h3⟩ := hx i (by omega)
      obtain ⟨b, h4, h5⟩ := open_elt hk hr h3
      obtain ⟨h6, h7⟩ := cells?_get h2
      refine ⟨b, h4, fun j s hj => ?_⟩
      obtain ⟨u, hu, hs⟩ := h5.get j s hj
      have hjl : j < P.cellsOf e := by
        rw [← h6]
        rcases Nat.lt_or_ge j cs'.length with h' | h'
        · exact h'
        · rw [List.getElem?_eq_none h'] at hu; cases hu
      refine ⟨u, ?_, hs⟩
      rw [← hr.1, ← Sm.add_add, h7 j hjl]
      exact hu)
    refine ⟨(List.range l0).map F, ?_, .inr ⟨a, c0, by simp, by simpa using hl, ?_, ?_⟩, ?_⟩
    · intro b hb
      obtain ⟨i, hi, rfl⟩ := List.mem_map.1 hb
      exact (hF i (List.mem_range.1 hi)).1
    · cases l0 with
      | zero => exact .inl (by simp)
      | succ l =>
        refine .inr ?_
        obtain ⟨s, hs⟩ : ∃ s, (k.f (F 0)).cells[0]? = some s := ⟨_, List.getElem?_eq_getElem (by rw [K.len_f]; exact k.sz_pos)⟩
        obtain ⟨u, hu, _⟩ := (hF 0 (by omega)).2 0 s hs
        have := cell?_lt hu
        rwa [add_block] at this
    · intro p s hp
      have hlenp : p < l0 * k.sz := by
        have := Vec.len_cells ⟨k, (List.range l0).map F⟩
        simp only [List.length_map, List.length_range] at this
        rw [← this]
        rcases Nat.lt_or_ge p (Vec.cells ⟨k, (List.range l0).map F⟩).length with h' | h'
        · exact h'
        · rw [List.getElem?_eq_none h'] at hp; cases hp
      have hi : p / k.sz < l0 := Nat.div_lt_of_lt_mul (by rw [Nat.mul_comm]; exact hlenp)
      have hj : p % k.sz < k.sz := Nat.mod_lt _ k.sz_pos
      have hdm : p / k.sz * k.sz + p % k.sz = p := by rw [Nat.mul_comm]; exact Nat.div_add_mod p k.sz
      have hg := Vec.get_cells ⟨k, (List.range l0).map F⟩ (p / k.sz) (p % k.sz) (F (p / k.sz)) (by simp [hi]) hj
      dsimp only at hg
      rw [hdm, hp] at hg
      have := (hF _ hi).2 _ s hg.symm
      rwa [hdm] at this
    · intro hw
      cases hd
      simp only [DataW.weights, ht, List.all_cons, Bool.and_eq_true, decide_eq_true_eq] at hw
      simp only [List.length_map, List.length_range] at hw ⊢
      refine Nat.le_trans (Nat.mul_le_mul_right _ ?_) hw.1
      omega

/-- What kinds of arguments a law takes. -/
inductive AK where
  | sc (n : NK)
  | ag (k : K)
  | sl (k : K)

def AK.row (P : Program) : AK → Nat → Prop
  | .sc n, t => P.underlying t = some n.desc ∧ ∀ q, n ≠ .complex q
  | .ag k, t => k ≠ .c64 ∧ k.agg = true ∧ KRow P t k
  | .sl k, t => k ≠ .c64 ∧ ∃ e, P.underlying t = some (.slice e) ∧ KRow P e k

/-- The bytes of an element. -/
def AK.fits (P : Program) : AK → Nat → FV → Prop
  | .sc n, _, x => ∃ s, x = .el (.sc s) ∧ n.fits s
  | .ag k, _, x => ∃ a, x = .el (k.f a) ∧ k.wf a
  | .sl k, t, x => ∃ xs : List k.ty, x = .vw none ⟨k, xs⟩ ∧ (∀ a ∈ xs, k.wf a) ∧ ∀ e, P.underlying t = some (.slice e) → xs.length * P.bytesOf e ≤ reachBytes

theorem open_arg {ak : AK} {t b0 : Nat} {v : Value} {d : DataW H} {ps : List MemPlace} (hr : ak.row P t) (hv : Value.okWide P w .any b0 t v) (h : DataW.Trod enc P w base spare held t v d ps) (hwt : (DataW.weights P t d).all (· ≤ reachBytes) = true) :
    ∃ x, ak.fits P t x ∧ FVR w (fun b => b < w.heap.size) [] [] x v := by
  cases ak with
  | sc n =>
    obtain ⟨hu, hc⟩ := hr
    obtain ⟨fuel, h⟩ := h
    have hcell : v.cells.toList = [v] := by
      cases n with
      | bool => obtain ⟨b, rfl⟩ := okWide_bool hu hv; rfl
      | int k => obtain ⟨b, rfl⟩ := okWide_int hu hv; rfl
      | float k => obtain ⟨b, rfl⟩ := okWide_float hu hv; rfl
      | complex k => exact absurd rfl (hc k)
    rw [hcell] at h
    obtain ⟨v', s, h1, h2, h3⟩ := open_cell hu hc h
    cases h1
    exact ⟨.el (.sc s), ⟨s, rfl, h2⟩, h3⟩
  | ag k =>
    obtain ⟨hk, hagg, hrow⟩ := hr
    have hrow' := hrow.2
    rw [hagg] at hrow'
    obtain ⟨fs, hu, _⟩ := hrow'
    obtain ⟨cs, rfl, _⟩ := okWide_struct hu hv
    obtain ⟨fuel, h⟩ := h
    obtain ⟨a, h1, h2⟩ := open_elt hk hrow h
    refine ⟨.el (k.f a), ⟨a, rfl, h1⟩, ?_⟩
    obtain ⟨ss, hss⟩ := K.agg_f hagg a
    show ElR (k.f a) _
    rw [hss] at h2 ⊢
    exact ⟨cs.toList, by simp, h2⟩
  | sl k =>
    obtain ⟨hk, e, hu, hrow⟩ := hr
    obtain ⟨xs, h1, h2, h3⟩ := open_sl hk hu hrow (okWide_slice hu hv) h
    refine ⟨.vw none ⟨k, xs⟩, ⟨xs, rfl, h1, fun e' he' => ?_⟩, h2, fun i hi => by cases hi⟩
    rw [hu] at he'
    cases he'
    exact h3 hwt

/-- The kinds of arguments, one by one. -/
def AKs (R : AK → Nat → FV → Prop) : List AK → List Nat → List FV → Prop
  | [], [], [] => True
  | a :: as, t :: ts, x :: xs => R a t x ∧ AKs R as ts xs
  | _, _, _ => False

theorem open_args : ∀ {aks : List AK} {ts : List Nat} {vs : List Value} {ds : List (DataW H)} {ps : List MemPlace} {b0 : Nat}, AllR (AK.row P) aks ts → (∀ (j : Nat) t v, ts[j]? = some t → vs[j]? = some v → Value.okWide P w .any b0 t v) →
    DataW.TrodAll enc P w base spare held ts vs ds ps → (∀ l, (DataW.weightsEach P (ts ++ l) ds).all (· ≤ reachBytes) = true → ∃ xs, AKs (AK.fits P) aks ts xs ∧ AllR (FVR w (fun b => b < w.heap.size) [] []) xs vs)
  | [], [], [], [], ps, b0, _, _, _, l, _ => ⟨[], trivial, trivial⟩
  | a :: aks, t :: ts, v :: vs, d :: ds, ps, b0, hr, hv, h, l, hw => by
    obtain ⟨p, q, h1, h2, _⟩ := h
    simp only [List.cons_append, DataW.weightsEach, List.all_append, Bool.and_eq_true] at hw
    obtain ⟨x, hx, hxv⟩ := open_arg hr.1 (hv 0 t v rfl rfl) h1 hw.1
    obtain ⟨xs, hxs, hxvs⟩ := open_args hr.2 (fun j t v ht hv' => hv (j + 1) t v (by simpa using ht) (by simpa using hv')) h2 l hw.2
    exact ⟨x :: xs, ⟨hx, hxs⟩, hxv, hxvs⟩
  | [], [], _ :: _, _, _, _, _, _, h, _, _ => h.elim
  | [], [], [], _ :: _, _, _, _, _, h, _, _ => h.elim
  | _ :: _, _ :: _, [], _, _, _, _, _, h, _, _ => h.elim
  | _ :: _, _ :: _, _ :: _, [], _, _, _, _, h, _, _ => h.elim
  | _ :: _, [], _, _, _, _, h, _, _, _, _ => h.elim
  | [], _ :: _, _, _, _, _, h, _, _, _, _ => h.elim

theorem trodAll_below {W W' : World} (hl : laidOutB P = true) (hb : Below W.heap.size W W') : ∀ {ts : List Nat} {vs : List Value} {ds : List (DataW H)} {ps : List MemPlace}, (∀ t ∈ ts, P.readableRec t = true ∧ t < P.types.size) → (∀ x ∈ ps, x.block < W.heap.size) →
    DataW.TrodAll enc P W 0 (fun _ => true) true ts vs ds ps → DataW.TrodAll enc P W' 0 (fun b => decide (b < W.heap.size)) true ts vs ds ps
  | [], [], [], ps, _, _, h => h
  | t :: ts, v :: vs, d :: ds, ps, ht, hlt, h => by
    obtain ⟨p, q, h1, h2, rfl⟩ := h
    exact ⟨p, q, Below.trod hl (ht t (by simp)).1 (ht t (by simp)).2 h1 hb (fun x hx => hlt x (by simp [hx])), trodAll_below hl hb (fun t' h' => ht t' (by simp [h'])) (fun x hx => hlt x (by simp [hx])) h2, rfl⟩
  | [], [], _ :: _, _, _, _, h => h.elim
  | _ :: _, _ :: _, [], _, _, _, h => h.elim
  | _ :: _, [], ds, _, _, _, h => by cases ds <;> exact h.elim
  | [], _ :: _, ds, _, _, _, h => by cases ds <;> exact h.elim
end

end Go.Sm
