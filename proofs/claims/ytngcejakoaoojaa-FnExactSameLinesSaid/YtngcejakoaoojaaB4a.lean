/- A drawn region with one new variable in it, and one write to that. -/
import Derived.Test.YtngcejakoaoojaaB4
namespace Go.Sm
open Go Go.RowKit

section
variable {P : Program} {T : TT} {Pr : Nat → Prop} {w0 : World} {cargs : List Value} {nt : Nat}

theorem idleL_get {ia is : Nat} : ∀ (os : List Oper) (n i : Nat), (idleL ia is n os)[i]? = (os[i]?).map fun o => if n + i = ia ∨ n + i = is then idle o else o
  | [], n, i => by simp [idleL]
  | o :: os, n, 0 => by
    unfold idleL
    have h : (Nat.beq n ia || Nat.beq n is) = decide (n = ia ∨ n = is) := by
      rw [Bool.eq_iff_iff]
      simp [Nat.beq_eq]
    rw [h]
    by_cases h2 : n = ia ∨ n = is
    · simp [h2]
    · simp [h2]
  | o :: os, n, i + 1 => by
    unfold idleL
    rw [List.getElem?_cons_succ, List.getElem?_cons_succ, idleL_get os (n + 1) i]
    congr 1
    funext o
    rw [show n + 1 + i = n + (i + 1) by omega]

theorem idleL_len {ia is : Nat} : ∀ (os : List Oper) (n : Nat), (idleL ia is n os).length = os.length
  | [], _ => rfl
  | _ :: os, n => by unfold idleL; rw [List.length_cons, List.length_cons, idleL_len os]

theorem findA_spec : ∀ {os : List Oper} {n ia d t : Nat}, findA n os = some (ia, d, t) → ∃ i o, ia = n + i ∧ os[i]? = some o ∧ o.op = .alloc t ∧ o.dst = some d ∧ o.guard = none
  | [], n, ia, d, t, h => by cases h
  | o :: os, n, ia, d, t, h => by
    unfold findA at h
    split at h
    · rename_i h1 h2 h3
      cases h
      exact ⟨0, o, rfl, rfl, h1, h2, h3⟩
    · obtain ⟨i, o', h1, h2, h3⟩ := findA_spec h
      exact ⟨i + 1, o', by omega, by simpa using h2, h3⟩

theorem findS_spec {d : Nat} : ∀ {os : List Oper} {n is x t : Nat}, findS d n os = some (is, x, t) → ∃ i o, is = n + i ∧ os[i]? = some o ∧ o.op = .store t (.tmp d) (.tmp x) ∧ o.dst = none ∧ o.guard = none
  | [], n, is, x, t, h => by cases h
  | o :: os, n, is, x, t, h => by
    unfold findS at h
    split at h
    · rename_i t' d' x' h1 h2 h3
      cases hb : Nat.beq d d' with
      | true =>
        rw [hb] at h
        cases h
        rw [← Nat.eq_of_beq_eq_true hb] at h1
        exact ⟨0, o, rfl, rfl, h1, h2, h3⟩
      | false =>
        rw [hb] at h
        obtain ⟨i, o', h1, h2, h3⟩ := findS_spec h
        exact ⟨i + 1, o', by omega, by simpa using h2, h3⟩
    · obtain ⟨i, o', h1, h2, h3⟩ := findS_spec h
      exact ⟨i + 1, o', by omega, by simpa using h2, h3⟩

theorem clearOf_spec {d x ia is : Nat} {all : Array Oper} : ∀ {os : List Oper} {n : Nat}, clearOf d x ia is all n os = true → ∀ (i : Nat) (o : Oper), os[i]? = some o →
    (n + i ≠ ia → o.dst ≠ some d ∧ (n + i ≠ is → d ∉ o.looksAt all)) ∧ (is < n + i → o.dst ≠ some x)
  | [], n, _, i, o, h => by simp at h
  | o1 :: os, n, h, i, o, hi => by
    unfold clearOf at h
    rw [Bool.and_eq_true, Bool.and_eq_true, Bool.or_eq_true, Bool.or_eq_true, Bool.and_eq_true, Bool.or_eq_true] at h
    obtain ⟨⟨h1, h2⟩, h3⟩ := h
    have same : ∀ (e : Nat) (q : Option Nat), (!sameDst (some e) q) = true → q ≠ some e := by
      intro e q hq he
      subst he
      simp [sameDst] at hq
    cases i with
    | zero =>
      simp at hi
      subst hi
      refine ⟨fun hne => ?_, fun hlt => ?_⟩
      · rcases h1 with h1 | ⟨h1, h4⟩
        · exact absurd (Nat.eq_of_beq_eq_true h1) hne
        · refine ⟨same d _ h1, fun hne2 hm => ?_⟩
          rcases h4 with h4 | h4
          · exact hne2 (Nat.eq_of_beq_eq_true h4)
          · rw [memN_iff.2 hm] at h4; cases h4
      · rcases h2 with h2 | h2
        · have := Nat.le_of_ble_eq_true h2; omega
        · exact same x _ h2
    | succ i =>
      have := clearOf_spec h3 i o (by simpa using hi)
      rwa [show n + 1 + i = n + (i + 1) by omega] at this

/-- What holds on the way. -/
structure InvA (Pr : Nat → Prop) (w1 : World) (ρ cargs : List Value) (nt : Nat) (ops : Array Oper) (ia is d t : Nat) (kd : K) (el : kd.ty) (s : St) (avs : List AV) (listed : Array Bool) (a : Act) (w : World) : Prop where
  size : a.tmps.size = nt
  defers : a.defers = []
  same : Same w1 w
  lsize : listed.size = ops.size
  done : ∀ (j : Nat) (o : Oper) (av : AV) (u : Nat), (idleL ia is 0 ops.toList)[j]? = some o → avs[j]? = some av → listed.getD j true = true → o.dst = some u → AVR w1 Pr ρ cargs av (a.tmps.getD u undef)
  still : ∀ (u : Nat) (v : AV), lk s.sl u = some v → u ≠ d → (∀ (j : Nat) (o : Oper), (idleL ia is 0 ops.toList)[j]? = some o → o.dst = some u → listed.getD j true = false) → AVR w1 Pr ρ cargs v (a.tmps.getD u undef)
  down : ∀ (j : Nat) (o : Oper), ops.toList[j]? = some o → listed.getD j true = true → ∀ e ∈ o.after, Region.binds .any e = true → listed.getD e.on true = true
  ext : listed.getD ia true = true → ∃ vr g vs, a.tmps.getD d undef = .pointer (some ⟨g, 0, none⟩) ∧ vr.ownBlock = some g ∧ w1.heap.size ≤ g ∧ w.ownsRow 0 t kd.sz vr 1 vs ∧
    AllR SCR (if listed.getD is true = true then (kd.f el).cells else (kd.f kd.z).cells) vs

theorem Guard.unidle {ops : Array Oper} {ia is : Nat} {g : Option (Nat × Bool)} {s s1 : St} {b : Bool} (h : Guard (idleL ia is 0 ops.toList) g s b s1) : Guard ops.toList g s b s1 := by
  have key : ∀ (j : Nat) (o : Oper) (d : Nat), (idleL ia is 0 ops.toList)[j]? = some o → o.dst = some d → ops.toList[j]? = some o := by
    intro j o d h1 h2
    rw [idleL_get] at h1
    obtain ⟨o', h3, h4⟩ := Option.map_eq_some_iff.1 h1
    split at h4
    · subst h4
      cases h2
    · rw [← h4]; exact h3
  cases h with
  | always h => exact .always h
  | test j want b o d h1 h2 h3 h4 => exact .test j want b o d h1 (key j o d h2 h3) h3 h4
  | skip j want o d h1 h2 h3 h4 => exact .skip j want o d h1 (key j o d h2 h3) h3 h4

theorem flat1 (k : K) (a : k.ty) : Vec.cells ⟨k, [a]⟩ = (k.f a).cells := by simp [Vec.cells]

/-- The new variable. -/
theorem alloc_run (hT : TOK P T) {o : Oper} {t : Nat} {kd : K} (hop : o.op = .alloc t) (hek : T.ek t = some kd) (a : Act) (w : World) :
    Yields P o a w fun v w' => Same w w' ∧ ∃ vr g vs, v = .pointer (some ⟨g, 0, none⟩) ∧ vr.ownBlock = some g ∧ w.heap.size ≤ g ∧ w'.ownsRow 0 t kd.sz vr 1 vs ∧ AllR SCR (kd.f kd.z).cells vs := by
  let kk : AV → Hp → R := fun av H => match av, H with
    | .fv (.pt ⟨.r 0, _, 0, 0⟩), [some row] => some ⟨[], some row⟩
    | _, _ => none
  have hrun : opK T false (.alloc t) ⟨[], []⟩ kk = some ⟨[], some ⟨t, ⟨kd, [kd.z]⟩⟩⟩ := by
    unfold opK
    simp only [cond_false, hek]
    rfl
  obtain ⟨av, H', hk, hdoes⟩ := does_alloc hT hop hrun
  dsimp only [kk] at hk
  split at hk
  · rename_i sz row
    simp only [Option.some.injEq, Out.mk.injEq, true_and] at hk
    subst hk
    have hH : HR w (fun k => k < w.heap.size) [] [] := ⟨rfl, fun r row h => by simp [rowAt] at h, fun r r' row row' v v' g _ h => by simp [rowAt] at h⟩
    refine (hdoes a w (fun k => k < w.heap.size) [] [] (fun _ h => h) hH (Opd.of_slots fun t' _ v hv => by cases hv)).mono fun v w' ⟨ρ', _, hav, hHR, hkeep⟩ => ?_
    obtain ⟨vr, g, h1, h2, h3⟩ := hav
    obtain ⟨v2, h4, vs, h5, h6, h7⟩ := hHR.row 0 ⟨t, ⟨kd, [kd.z]⟩⟩ rfl
    rw [h1] at h4
    cases h4
    rw [flat1] at h6
    refine ⟨⟨hkeep.os, hkeep.tape, hkeep.output, hkeep.size, hkeep.block⟩, vr, g, vs, ?_, h2, Nat.not_lt.1 (h7 g h2), h5, h6⟩
    simpa using h3
  · cases hk

/-- The write to it. -/
theorem store_run (hT : TOK P T) {o : Oper} {t d x : Nat} {kd : K} {e : Elt} {el : kd.ty} (hop : o.op = .store t (.tmp d) (.tmp x)) (hdx : d ≠ x) (hek : T.ek t = some kd) (hg : kd.g e = some el) (a : Act) (w w1 : World)
    (hsame : Same w1 w) {vr : Value} {g : Nat} {vs : List Value} (h1 : a.tmps.getD d undef = .pointer (some ⟨g, 0, none⟩)) (h2 : vr.ownBlock = some g) (h3 : w1.heap.size ≤ g) (h4 : w.ownsRow 0 t kd.sz vr 1 vs) (h5 : AllR SCR (kd.f kd.z).cells vs)
    (h6 : ElR e (a.tmps.getD x undef)) :
    Yields P o a w fun _ w' => Same w1 w' ∧ ∃ vs', w'.ownsRow 0 t kd.sz vr 1 vs' ∧ AllR SCR (kd.f el).cells vs' := by
  let kk : AV → Hp → R := fun av H => match H with
    | [some row] => some ⟨[], some row⟩
    | _ => none
  have hrun : opK T false (.store t (.tmp d) (.tmp x)) ⟨[(d, .fv (.pt ⟨.r 0, kd.sz, 0, 0⟩)), (x, .fv (.el e))], [some ⟨t, ⟨kd, [kd.z]⟩⟩]⟩ kk = some ⟨[], some ⟨t, ⟨kd, [el]⟩⟩⟩ := by
    have hlen : e.cells.length = kd.sz := by rw [← K.g_f hg]; exact K.len_f kd el
    have e1 : evO ⟨[(d, .fv (.pt ⟨.r 0, kd.sz, 0, 0⟩)), (x, .fv (.el e))], [some ⟨t, ⟨kd, [kd.z]⟩⟩]⟩ (.tmp d) = some (.pt ⟨.r 0, kd.sz, 0, 0⟩) := by
      unfold evO
      dsimp only
      rw [lk_cons, if_pos rfl]
    have e2 : evO ⟨[(d, .fv (.pt ⟨.r 0, kd.sz, 0, 0⟩)), (x, .fv (.el e))], [some ⟨t, ⟨kd, [kd.z]⟩⟩]⟩ (.tmp x) = some (.el e) := by
      unfold evO
      dsimp only
      rw [lk_cons, if_neg hdx, lk_cons, if_pos rfl]
    unfold opK
    simp only [cond_false, e1, e2]
    unfold storeK
    simp only [hek, rowAt, List.getElem?_cons_zero, setElt, decide_true, Nat.beq_refl, Bool.and_self, cond_true, hg, hlen, Bool.true_and, K.sz_pos]
    rfl
  obtain ⟨av, H', hk, hdoes⟩ := does_store hT hop hrun
  dsimp only [kk] at hk
  split at hk
  · rename_i row
    simp only [Option.some.injEq, Out.mk.injEq, true_and] at hk
    subst hk
    have hH : HR w (fun k => k < w1.heap.size) [vr] [some ⟨t, ⟨kd, [kd.z]⟩⟩] := by
      refine ⟨rfl, fun r row h => ?_, fun r r' row row' v v' g' hne h h' => ?_⟩
      · cases r with
        | zero =>
          simp [rowAt] at h
          subst h
          exact ⟨vr, rfl, vs, h4, by rw [flat1]; exact h5, fun g' hg' => by rw [h2] at hg'; cases hg'; exact Nat.not_lt.2 h3⟩
        | succ r => simp [rowAt] at h
      · cases r with
        | zero => cases r' with
          | zero => exact absurd rfl hne
          | succ r' => simp [rowAt] at h'
        | succ r => simp [rowAt] at h
    have hlt : ∀ k, (fun k => k < w1.heap.size) k → k < w.heap.size := fun k hk => Nat.lt_of_lt_of_le hk hsame.size
    refine (hdoes a w (fun k => k < w1.heap.size) [vr] [] hlt hH (Opd.of_slots fun t' ht v hv => ?_)).mono fun v w' ⟨ρ', hρ, _, hHR, hkeep⟩ => ?_
    · rw [lk_cons] at hv
      split at hv
      · rename_i e1
        subst e1
        cases hv
        exact ⟨vr, g, rfl, h2, by rw [h1]; simp⟩
      · rw [lk_cons] at hv
        split at hv
        · rename_i e1
          subst e1
          cases hv
          exact h6
        · cases hv
    · obtain ⟨v2, h7, vs', h8, h9, _⟩ := hHR.row 0 ⟨t, ⟨kd, [el]⟩⟩ rfl
      rw [hρ 0 vr rfl] at h7
      cases h7
      rw [flat1] at h9
      exact ⟨⟨hkeep.os.trans hsame.os, hkeep.tape.trans hsame.tape, hkeep.output.trans hsame.output, Nat.le_trans hsame.size hkeep.size, fun k hk => (hkeep.block k hk).trans (hsame.block k hk)⟩, vs', h8, h9⟩
  · cases hk

/-- What the static look says of the whole. -/
structure StatA (ops : Array Oper) (ia is d x t nt : Nat) : Prop where
  draw : drawOk ops = true
  a : ∃ o, ops.toList[ia]? = some o ∧ o.op = .alloc t ∧ o.dst = some d ∧ o.guard = none
  s : ∃ o, ops.toList[is]? = some o ∧ o.op = .store t (.tmp d) (.tmp x) ∧ o.dst = none ∧ o.guard = none
  lt : ia < is
  dx : d ≠ x
  dn : d < nt
  clear : ∀ (i : Nat) (o : Oper), ops.toList[i]? = some o → (i ≠ ia → o.dst ≠ some d ∧ (i ≠ is → d ∉ o.looksAt ops)) ∧ (is < i → o.dst ≠ some x)

theorem looks_store {ops : Array Oper} {o : Oper} {t d x : Nat} (h : o.op = .store t (.tmp d) (.tmp x)) : d ∈ o.looksAt ops ∧ x ∈ o.looksAt ops := by
  unfold Oper.looksAt
  rw [h]
  constructor <;> refine List.mem_append_left _ ?_ <;> simp [Op.operands]

/-- **ONE OPERATION, WHENEVER IT COMES UP.** -/
theorem invA_step (hT : TOK P T) {ops : Array Oper} {ia is d x t : Nat} (hst : StatA ops ia is d x t nt) {kd : K} {e : Elt} {el : kd.ty} (hek : T.ek t = some kd) (hg : kd.g e = some el)
    {s s' : St} {avs : List AV} (hpath : Path P (idleL ia is 0 ops.toList) nt (idleL ia is 0 ops.toList) s avs s') (hx : lk s'.sl x = some (.fv (.el e))) {w1 : World} {ρ : List Value} (hp : ∀ k, Pr k → k < w1.heap.size) (hH : HR w1 Pr ρ s.H)
    {listed : Array Bool} {a : Act} {w : World} (hinv : InvA Pr w1 ρ cargs nt ops ia is d t kd el s avs listed a w) {i : Nat} (hr : i ∈ Region.ready .any ops listed) {Q : Exit → Act → World → Prop} {K : Act → World → Prop}
    (hK : ∀ a' w', InvA Pr w1 ρ cargs nt ops ia is d t kd el s avs (listed.setIfInBounds i true) a' w' → K a' w') : wpOp P ops Q i K a w := by
  obtain ⟨hun, o, ho, hall⟩ := mem_ready.1 hr
  have ho' : ops.toList[i]? = some o := by rw [← ho]; simp
  have hil : i < ops.toList.length := by
    rcases Nat.lt_or_ge i ops.toList.length with h' | h'
    · exact h'
    · rw [List.getElem?_eq_none h'] at ho'; cases ho'
  have hil' : i < listed.size := by rw [hinv.lsize]; simpa using hil
  have spec := draw_spec (all := ops) (n := 0) hst.draw
  simp only [Nat.zero_add] at spec
  have hp' : ∀ k, Pr k → k < w.heap.size := fun k hk => Nat.lt_of_lt_of_le (hp k hk) hinv.same.size
  obtain ⟨oa, hoa, hopa, hdsta, hga⟩ := hst.a
  obtain ⟨os_, hos, hops, hdsts, hgs⟩ := hst.s
  have hlt := hst.lt
  -- the write waits for the variable
  have hafter : listed.getD is true = true → listed.getD ia true = true := by
    intro h
    have hpr := (spec ia oa hoa).2 is os_ hlt hos
    rcases (pair_spec hpr).1 with ⟨e', he', hb', hon⟩ | ⟨hno, _⟩
    · have := hinv.down is os_ hos h e' he' hb'
      rwa [hon] at this
    · exact absurd (looks_store hops).1 (hno d hdsta)
  have hds : ∀ (j : Nat) (o' : Oper), ops.toList[j]? = some o' → listed.getD j true = true → ∀ e' ∈ o'.after, Region.binds .any e' = true → (listed.setIfInBounds i true).getD e'.on true = true := by
    intro j o' hj hl e' he' hb'
    rw [getD_listed hil']
    split
    · rfl
    · exact hinv.down j o' hj hl e' he' hb'
  have hdown : ∀ (j : Nat) (o' : Oper), ops.toList[j]? = some o' → (listed.setIfInBounds i true).getD j true = true → ∀ e' ∈ o'.after, Region.binds .any e' = true → (listed.setIfInBounds i true).getD e'.on true = true := by
    intro j o' hj hl e' he' hb'
    rw [getD_listed hil'] at hl
    by_cases e2 : i = j
    · subst e2
      rw [ho'] at hj
      cases hj
      rw [getD_listed hil']
      split
      · rfl
      · exact getD_false (hall e' he' hb')
    · rw [if_neg e2] at hl
      exact hds j o' hj hl e' he' hb'
  -- what is listed otherwise
  have hother : ∀ (j : Nat) (o' : Oper) (av' : AV) (u : Nat), j ≠ i → (idleL ia is 0 ops.toList)[j]? = some o' → avs[j]? = some av' → (listed.setIfInBounds i true).getD j true = true → o'.dst = some u → AVR w1 Pr ρ cargs av' (a.tmps.getD u undef) := by
    intro j o' av' u hne hj ha hl hd
    rw [getD_listed hil', if_neg (Ne.symm hne)] at hl
    exact hinv.done j o' av' u hj ha hl hd
  have hstill : ∀ (u : Nat) (v : AV), lk s.sl u = some v → u ≠ d → (∀ (j : Nat) (o' : Oper), (idleL ia is 0 ops.toList)[j]? = some o' → o'.dst = some u → (listed.setIfInBounds i true).getD j true = false) → AVR w1 Pr ρ cargs v (a.tmps.getD u undef) := by
    intro u v hu hud hno
    refine hinv.still u v hu hud fun j o' hj hd => ?_
    have := hno j o' hj hd
    rw [getD_listed hil'] at this
    split at this
    · cases this
    · exact this
  unfold wpOp
  rw [ho]
  dsimp only
  by_cases hia : i = ia
  · -- THE NEW VARIABLE
    subst hia
    rw [hoa] at ho'
    cases ho'
    have hw : Region.wanted o (yielded ops a.tmps) = true := by unfold Region.wanted; rw [hga]
    rw [if_pos hw]
    refine .inl ((alloc_run hT hopa hek a w).wp ?_)
    rintro v w' ⟨hs, vr, g, vs, hv, h2, h3, h4, h5⟩
    refine hK _ _ ⟨?_, ?_, hinv.same.trans hs, by simp [hinv.lsize], fun j o' av' u hj ha hl hd => ?_, fun u v' hu hud hno => ?_, hdown, fun _ => ?_⟩
    · rw [hdsta]; simp [Act.put, hinv.size]
    · rw [hdsta]; exact hinv.defers
    · have hne : j ≠ i := by
        intro e'
        subst e'
        rw [idleL_get, hoa] at hj
        simp at hj
        subst hj
        cases hd
      have hud : u ≠ d := by
        intro e'
        subst e'
        rw [idleL_get] at hj
        obtain ⟨q, h6, h7⟩ := Option.map_eq_some_iff.1 hj
        split at h7
        · subst h7; cases hd
        · subst h7
          exact ((hst.clear j q h6).1 hne).1 hd
      rw [hdsta]
      simp only [Act.put]
      rw [getD_set _ _ _ _ (by rw [hinv.size]; exact hst.dn), if_neg (Ne.symm hud)]
      exact hother j o' av' u hne hj ha hl hd
    · rw [hdsta]
      simp only [Act.put]
      rw [getD_set _ _ _ _ (by rw [hinv.size]; exact hst.dn), if_neg (Ne.symm hud)]
      exact hstill u v' hu hud hno
    · refine ⟨vr, g, vs, ?_, h2, Nat.le_trans hinv.same.size h3, h4, ?_⟩
      · rw [hdsta]
        simp only [Act.put]
        rw [getD_set _ _ _ _ (by rw [hinv.size]; exact hst.dn), if_pos rfl, hv]
      · have h6 : ¬ (listed.setIfInBounds i true).getD is true = true := by
          rw [getD_listed hil', if_neg (by omega)]
          intro h
          have := hafter h
          rw [hun] at this
          cases this
        rw [if_neg h6]
        exact h5
  · by_cases his : i = is
    · -- THE WRITE TO IT
      subst his
      rw [hos] at ho'
      cases ho'
      have hw : Region.wanted o (yielded ops a.tmps) = true := by unfold Region.wanted; rw [hgs]
      rw [if_pos hw]
      have hla : listed.getD ia true = true := by
        have hpr := (spec ia oa hoa).2 i o hlt hos
        rcases (pair_spec hpr).1 with ⟨e', he', hb', hon⟩ | ⟨hno, _⟩
        · have := hall e' he' hb'
          rw [hon] at this
          exact getD_false this
        · exact absurd (looks_store hops).1 (hno d hdsta)
      obtain ⟨vr, g, vs, e1, e2, e3, e4, e5⟩ := hinv.ext hla
      rw [if_neg (by rw [hun]; exact Bool.false_ne_true)] at e5
      have hxv : ElR e (a.tmps.getD x undef) := by
        have : AVR w1 Pr ρ cargs (.fv (.el e)) (a.tmps.getD x undef) := by
          rcases hpath.final hx with ⟨j, o', h1, h2, h3⟩ | ⟨h1, h2⟩
          · have h1' := h1
            rw [idleL_get] at h1'
            obtain ⟨q, h6, h7⟩ := Option.map_eq_some_iff.1 h1'
            have hq : q = o' ∧ ¬ (0 + j = ia ∨ 0 + j = i) := by
              split at h7
              · subst h7; cases h2
              · rename_i hne; exact ⟨h7, hne⟩
            obtain ⟨rfl, hne⟩ := hq
            rcases Nat.lt_trichotomy j i with h8 | h8 | h8
            · refine hinv.done j q _ x h1 h3 ?_ h2
              have hpr := (spec j q h6).2 i o h8 hos
              rcases (pair_spec hpr).1 with ⟨e', he', hb', hon⟩ | ⟨hno, _⟩
              · have := hall e' he' hb'
                rw [hon] at this
                exact getD_false this
              · exact absurd (looks_store hops).2 (hno x h2)
            · omega
            · exact absurd h2 ((hst.clear j q h6).2 h8)
          · exact hinv.still x _ h1 (Ne.symm hst.dx) fun j o' hj hd => absurd hd (h2 j o' hj)
        exact this
      refine .inl ((store_run hT hops hst.dx hek hg a w w1 hinv.same e1 e2 e3 e4 e5 hxv).wp ?_)
      rintro v w' ⟨hs, vs', h8, h9⟩
      rw [hdsts]
      refine hK _ _ ⟨hinv.size, hinv.defers, hs, by simp [hinv.lsize], fun j o' av' u hj ha hl hd => ?_, hstill, hdown, fun _ => ?_⟩
      · have hne : j ≠ i := by
          intro e'
          subst e'
          rw [idleL_get, hos] at hj
          simp at hj
          subst hj
          cases hd
        exact hother j o' av' u hne hj ha hl hd
      · refine ⟨vr, g, vs', e1, e2, e3, h8, ?_⟩
        rw [getD_listed hil', if_pos rfl, if_pos rfl]
        exact h9
    · -- ANY OTHER
      have hoi : (idleL ia is 0 ops.toList)[i]? = some o := by
        rw [idleL_get, ho']
        simp [hia, his]
      obtain ⟨av, hav⟩ : ∃ av, avs[i]? = some av := ⟨_, List.getElem?_eq_getElem (by rw [hpath.len, idleL_len]; exact hil)⟩
      obtain ⟨hdst, si, s1, hsH, hstep, hslots⟩ := hpath.at hoi hav
      have hcl := hst.clear i o ho'
      have real : ∀ (j : Nat) (o' : Oper) (u : Nat), (idleL ia is 0 ops.toList)[j]? = some o' → o'.dst = some u → ops.toList[j]? = some o' ∧ j ≠ ia ∧ j ≠ is := by
        intro j o' u hj hd
        rw [idleL_get] at hj
        obtain ⟨q, h6, h7⟩ := Option.map_eq_some_iff.1 hj
        split at h7
        · subst h7; cases hd
        · rename_i hne
          subst h7
          exact ⟨h6, fun e' => hne (.inl (by omega)), fun e' => hne (.inr (by omega))⟩
      have hlook : ∀ u, u ∈ o.looksAt ops → ∀ v, lk si.sl u = some v → AVR w Pr ρ cargs v (a.tmps.getD u undef) := by
        intro u hu v hv
        refine AVR.same (w := w1) ?_ hinv.same hp
        have hud : u ≠ d := fun e' => (hcl.1 hia).2 his (by rw [← e']; exact hu)
        rcases hslots u v hv with ⟨j, o', h1, h2, h3, h4⟩ | ⟨h1, h2⟩
        · obtain ⟨h2', _⟩ := real j o' u h2 h3
          have hpr := ((spec j o' h2').2 i o h1 ho')
          rcases (pair_spec hpr).1 with ⟨e', he', hb', hon⟩ | ⟨hno, _⟩
          · refine hinv.done j o' v u h2 h4 ?_ h3
            have := hall e' he' hb'
            rw [hon] at this
            exact getD_false this
          · exact absurd hu (hno u h3)
        · refine hinv.still u v h1 hud fun j o' hj hd => ?_
          rcases Nat.lt_trichotomy j i with hlt' | heq | hgt
          · exact absurd hd (h2 j o' hlt' hj)
          · subst heq; exact hun
          · cases hl : listed.getD j true with
            | false => rfl
            | true =>
              obtain ⟨hj', _⟩ := real j o' u hj hd
              have hpr := (spec i o ho').2 j o' hgt hj'
              rcases (pair_spec hpr).1 with ⟨e', he', hb', hon⟩ | ⟨_, hno⟩
              · have := hinv.down j o' hj' hl e' he' hb'
                rw [hon, hun] at this
                cases this
              · exact absurd hu (hno u hd)
      have hnext : ∀ (v : Value) (w' : World), AVR w Pr ρ cargs av v → Same w w' → K (a.put o.dst v) w' := by
        intro v w' hv hs
        have hv1 : AVR w1 Pr ρ cargs av v := hv.back hinv.same hp
        refine hK _ _ ?_
        have hgd : ∀ (u : Nat), (a.put o.dst v).tmps.getD u undef = if o.dst = some u then v else a.tmps.getD u undef := by
          intro u
          cases hd : o.dst with
          | none => simp [Act.put]
          | some d' =>
            have hlt' : d' < a.tmps.size := by rw [hinv.size]; rw [hd] at hdst; exact of_decide_eq_true hdst
            simp only [Act.put]
            rw [getD_set _ _ _ _ hlt']
            simp
        refine ⟨?_, ?_, hinv.same.trans hs, by simp [hinv.lsize], fun j o' av' u hj ha hl hd => ?_, fun u v' hu hud hno => ?_, hdown, fun hl => ?_⟩
        · cases o.dst <;> simp [Act.put, hinv.size]
        · cases o.dst <;> exact hinv.defers
        · rw [hgd u]
          by_cases e' : j = i
          · subst e'
            rw [hoi] at hj
            cases hj
            rw [hav] at ha
            cases ha
            rw [if_pos hd]
            exact hv1
          · obtain ⟨hj', _⟩ := real j o' u hj hd
            have hne : o.dst ≠ some u := by
              rcases Nat.lt_or_gt_of_ne e' with h | h
              · exact fun h2 => (pair_spec ((spec j o' hj').2 i o h ho')).2 u hd h2
              · intro h2; exact (pair_spec ((spec i o ho').2 j o' h hj')).2 u h2 hd
            rw [if_neg hne]
            exact hother j o' av' u e' hj ha hl hd
        · rw [hgd u]
          have hne : o.dst ≠ some u := by
            intro h2
            have := hno i o hoi h2
            rw [getD_listed hil', if_pos rfl] at this
            cases this
          rw [if_neg hne]
          exact hstill u v' hu hud hno
        · rw [getD_listed hil', if_neg hia] at hl
          obtain ⟨vr, g, vs, e1, e2, e3, e4, e5⟩ := hinv.ext hl
          refine ⟨vr, g, vs, ?_, e2, e3, ownsRow_keep (fun g' hg' => hs.block g' ((e4.lt g' hg').2)) e4, ?_⟩
          · rw [hgd d, if_neg (hcl.1 hia).1]
            exact e1
          · rw [getD_listed hil', if_neg his]
            exact e5
      have hmem : ∀ u, optIn (some u) (o.looksAt ops) = true → u ∈ o.looksAt ops := fun u h => memN_iff.1 h
      rcases hstep with ⟨hg', hq⟩ | ⟨hg', rfl⟩
      · rw [if_pos (hg'.unidle.wanted (w := w) (Pr := Pr) (ρ := ρ) (cargs := cargs) fun u hd v hv => hlook u (hmem u hd) v hv)]
        refine .inl ((hq a w Pr ρ cargs hp' ?_ (Opd.of_slots fun u hu v hv => ?_)).wp fun v w' ⟨h1, h2⟩ => hnext v w' h1 h2)
        · rw [hg'.same.2, hsH]
          exact hH.keep hinv.same.block
        · refine hlook u ?_ v (by rw [← hg'.same.1 u]; exact hv)
          unfold Oper.looksAt
          refine List.mem_append_left _ (List.mem_filterMap.2 ⟨.tmp u, by simpa using hu, rfl⟩)
      · rw [if_neg (by rw [hg'.unidle.wanted (w := w) (Pr := Pr) (ρ := ρ) (cargs := cargs) fun u hd v hv => hlook u (hmem u hd) v hv]; exact Bool.false_ne_true)]
        exact hnext undef w rfl (Same.refl w)

/-- The operations that are still to come. -/
theorem invA_any (hT : TOK P T) {ops : Array Oper} {ia is d x t : Nat} (hst : StatA ops ia is d x t nt) {kd : K} {e : Elt} {el : kd.ty} (hek : T.ek t = some kd) (hg : kd.g e = some el)
    {s s' : St} {avs : List AV} (hpath : Path P (idleL ia is 0 ops.toList) nt (idleL ia is 0 ops.toList) s avs s') (hx : lk s'.sl x = some (.fv (.el e))) {w1 : World} {ρ : List Value} (hp : ∀ k, Pr k → k < w1.heap.size) (hH : HR w1 Pr ρ s.H)
    {Q : Exit → Act → World → Prop} (hQ : ∀ (listed : Array Bool) (a : Act) (w : World), InvA Pr w1 ρ cargs nt ops ia is d t kd el s avs listed a w → (∀ i, i < ops.size → listed.getD i true = true) → Q .normal a w) :
    ∀ (fuel : Nat) (left : List Nat) (listed : Array Bool) (a : Act) (w : World), left.length = fuel → left.Nodup → (∀ i, i ∈ left ↔ i < ops.size ∧ listed.getD i true = false) → InvA Pr w1 ρ cargs nt ops ia is d t kd el s avs listed a w → wpAny P .any ops Q fuel listed a w := by
  intro fuel
  induction fuel with
  | zero =>
    intro left listed a w hl hn hleft hinv
    have hnil : left = [] := List.eq_nil_of_length_eq_zero hl
    subst hnil
    have hall : ∀ i, i < ops.size → listed.getD i true = true := by
      intro i hi
      cases hb : listed.getD i true with
      | true => rfl
      | false => exact absurd ((hleft i).2 ⟨hi, hb⟩) (by simp)
    refine ⟨?_, hQ listed a w hinv hall⟩
    apply List.eq_nil_iff_forall_not_mem.2
    intro i hi
    obtain ⟨h1, o, ho, _⟩ := mem_ready.1 hi
    have : i < ops.size := by
      rcases Nat.lt_or_ge i ops.size with h' | h'
      · exact h'
      · rw [Array.getElem?_eq_none h'] at ho; cases ho
    rw [hall i this] at h1
    cases h1
  | succ fuel ih =>
    intro left listed a w hl hn hleft hinv
    refine ⟨fun hempty => ?_, fun i hi => ?_⟩
    · -- the first that is not listed is ready
      exfalso
      have hex : ∃ i, i ∈ left := by
        cases left with
        | nil => simp at hl
        | cons i l => exact ⟨i, by simp⟩
      obtain ⟨i0, hi0⟩ := hex
      have hmin : ∃ i, i ∈ left ∧ ∀ j, j < i → j ∉ left := by
        have key : ∀ n i, i ≤ n → i ∈ left → ∃ i, i ∈ left ∧ ∀ j, j < i → j ∉ left := by
          intro n
          induction n with
          | zero => intro i hi him; exact ⟨i, him, fun j hj => by omega⟩
          | succ n ihn =>
            intro i hi him
            by_cases h : ∃ j, j < i ∧ j ∈ left
            · obtain ⟨j, hj, hjm⟩ := h
              exact ihn j (by omega) hjm
            · exact ⟨i, him, fun j hj hjm => h ⟨j, hj, hjm⟩⟩
        exact key i0 i0 (Nat.le_refl _) hi0
      obtain ⟨i, him, hmini⟩ := hmin
      obtain ⟨hlt, hun⟩ := (hleft i).1 him
      obtain ⟨o, ho⟩ : ∃ o, ops[i]? = some o := ⟨_, Array.getElem?_eq_getElem hlt⟩
      have ho' : ops.toList[i]? = some o := by rw [← ho]; simp
      have hready : i ∈ Region.ready .any ops listed := by
        refine mem_ready.2 ⟨hun, o, ho, fun e he hb => ?_⟩
        have hon := (draw_spec (all := ops) (n := 0) hst.draw i o ho').1 e he hb
        simp only [Nat.zero_add] at hon
        have hnl : e.on ∉ left := hmini _ hon
        have hlt2 : e.on < ops.size := by omega
        have htrue : listed.getD e.on true = true := by
          cases hb2 : listed.getD e.on true with
          | true => rfl
          | false => exact absurd ((hleft _).2 ⟨hlt2, hb2⟩) hnl
        have hls : e.on < listed.size := by rw [hinv.lsize]; exact hlt2
        simp [Array.getD, hls] at htrue ⊢
        exact htrue
      rw [hempty] at hready
      cases hready
    · obtain ⟨h1, o, ho, _⟩ := mem_ready.1 hi
      have hlt : i < ops.size := by
        rcases Nat.lt_or_ge i ops.size with h' | h'
        · exact h'
        · rw [Array.getElem?_eq_none h'] at ho; cases ho
      have him : i ∈ left := (hleft i).2 ⟨hlt, h1⟩
      refine invA_step hT hst hek hg hpath hx hp hH hinv hi fun a' w' hinv' => ih (left.erase i) _ a' w' ?_ (hn.erase i) (fun j => ?_) hinv'
      · rw [List.length_erase_of_mem him, hl]; rfl
      · rw [hn.mem_erase_iff, hleft j, getD_listed (by rw [hinv.lsize]; exact hlt)]
        constructor
        · rintro ⟨hne, h2, h3⟩; exact ⟨h2, by rw [if_neg (Ne.symm hne)]; exact h3⟩
        · rintro ⟨h2, h3⟩
          split at h3
          · cases h3
          · rename_i e; exact ⟨Ne.symm e, h2, h3⟩


/-- **A REGION IN WHATEVER ORDER, WITH ONE NEW VARIABLE.** -/
theorem drawnA_ok (hT : TOK P T) (hp : ∀ k, Pr k → k < w0.heap.size) {ops : Array Oper} {ia is d x t : Nat} (hst : StatA ops ia is d x t nt) {Q : Exit → Act → World → Prop} {out : Out} {k : St → R} {id : Nat} {s : St} {a : Act} {w : World} {ρ : List Value}
    (h : opsK T true nt (idleL ia is 0 ops.toList) (idleL ia is 0 ops.toList) s (fun s' => match T.ek t, lk s'.sl x with
      | some kd, some (.fv (.el e)) => (match kd.g e with
        | some a => k ⟨(d, .fv (.pt ⟨.r s'.H.length, kd.sz, 0, 0⟩)) :: s'.sl, s'.H ++ [some ⟨t, ⟨kd, [a]⟩⟩]⟩
        | none => none)
      | _, _ => none) = some out) (hs : SR Pr w0 cargs nt s a w ρ) (nf : Nat) (hQ : ∀ s' a' w' ρ', k s' = some out → SR Pr w0 cargs nt s' a' w' ρ' → Ext nf ρ ρ' → Q .normal a' w') : (Code.region id ops true).wp P Q a w := by
  obtain ⟨avs, s', hpath, hk⟩ := opsK_path hT _ _ h
  split at hk
  · rename_i kd e hek hx
    split at hk
    · rename_i el hg
      refine wp_region_any hT.mo ?_
      have hsame : Same w { w with drawn := w.drawn + 1 } := Same.drew w
      have hpw : ∀ k, Pr k → k < ({ w with drawn := w.drawn + 1 } : World).heap.size := hs.lt hp
      have hH : HR ({ w with drawn := w.drawn + 1 } : World) Pr ρ s.H := hs.heap.keep hsame.block
      refine invA_any (cargs := cargs) hT hst hek hg hpath hx hpw hH ?_ ops.size (List.range ops.size) _ a _ (by simp) List.nodup_range ?_ ?_
      · intro listed a' w' hinv hall
        obtain ⟨oa, hoa, _⟩ := hst.a
        obtain ⟨os_, hos, _⟩ := hst.s
        have hlen : ∀ (i : Nat) (o : Oper), ops.toList[i]? = some o → i < ops.size := by
          intro i o hi
          rcases Nat.lt_or_ge i ops.toList.length with h' | h'
          · simpa using h'
          · rw [List.getElem?_eq_none h'] at hi; cases hi
        obtain ⟨vr, g, vs, e1, e2, e3, e4, e5⟩ := hinv.ext (hall ia (hlen ia oa hoa))
        rw [if_pos (hall is (hlen is os_ hos))] at e5
        have hHl : s'.H = s.H := hpath.heap
        have hwsz : w'.heap.size = w'.heap.size := rfl
        have hold : HR w' Pr ρ s.H := hH.keep hinv.same.block
        have hnew : RowR w' Pr vr t ⟨kd, [el]⟩ := by
          refine ⟨vs, e4, by rw [flat1]; exact e5, fun g' hg' hpr => ?_⟩
          rw [e2] at hg'
          cases hg'
          exact absurd (hpw g hpr) (Nat.not_lt.2 e3)
        have hHR : HR w' Pr (ρ ++ [vr]) (s.H ++ [some ⟨t, ⟨kd, [el]⟩⟩]) := by
          refine ⟨by simp [hH.len], fun r row hr => ?_, fun r r' row row' v v' g' hne h1 h2 h3 h4 h5 => ?_⟩
          · rcases rowAt_push hr with h1 | ⟨h1, h2⟩
            · obtain ⟨v, h3, h4⟩ := hold.row r row h1
              exact ⟨v, getElem?_push_old h3, h4⟩
            · subst h1
              cases h2
              exact ⟨vr, by rw [← hH.len]; simp, hnew⟩
          · have hval : ∀ (r : Nat) (row : Row) (v : Value), rowAt s.H r = some row → (ρ ++ [vr])[r]? = some v → ρ[r]? = some v ∧ ∀ g', v.ownBlock = some g' → g' < w.heap.size := by
              intro r row v h1 h2
              obtain ⟨v2, h6, h7⟩ := hH.row r row h1
              rw [getElem?_push_old h6] at h2
              cases h2
              exact ⟨h6, fun g' hg' => h7.lt hg'⟩
            have hlast : ∀ (v : Value), (ρ ++ [vr])[s.H.length]? = some v → v = vr := by
              intro v h1
              rw [← hH.len] at h1
              simp at h1
              exact h1.symm
            rcases rowAt_push h1 with a1 | ⟨a1, _⟩ <;> rcases rowAt_push h2 with b1 | ⟨b1, _⟩
            · exact hold.apart r r' row row' v v' g' hne a1 b1 (hval r row v a1 h3).1 (hval r' row' v' b1 h4).1 h5
            · subst b1
              rw [hlast v' h4, e2]
              intro h6
              cases h6
              exact absurd ((hval r row v a1 h3).2 _ h5) (Nat.not_lt.2 e3)
            · subst a1
              rw [hlast v h3, e2] at h5
              cases h5
              intro h6
              exact absurd ((hval r' row' v' b1 h4).2 _ h6) (Nat.not_lt.2 e3)
            · omega
        refine hQ _ a' w' (ρ ++ [vr]) hk ⟨hinv.size, hinv.defers, fun u v hv => ?_, ?_, hs.keep.trans (Keep.of_below (hsame.trans hinv.same) (hs.lt hp))⟩ fun r u _ hu => getElem?_push_old hu
        · rw [lk_cons] at hv
          split at hv
          · rename_i e6
            subst e6
            cases hv
            refine ⟨vr, g, ?_, e2, by rw [e1]; simp⟩
            rw [hHl, ← hH.len]
            simp
          · rename_i hne
            have : AVR ({ w with drawn := w.drawn + 1 } : World) Pr ρ cargs v (a'.tmps.getD u undef) := by
              rcases hpath.final hv with ⟨j, o, h1, h2, h3⟩ | ⟨h1, h2⟩
              · refine hinv.done j o v u h1 h3 (hall j ?_) h2
                have hj : j < (idleL ia is 0 ops.toList).length := by
                  rcases Nat.lt_or_ge j (idleL ia is 0 ops.toList).length with h' | h'
                  · exact h'
                  · rw [List.getElem?_eq_none h'] at h1; cases h1
                rw [idleL_len] at hj
                simpa using hj
              · exact hinv.still u v h1 (Ne.symm hne) fun j o hj hd => absurd hd (h2 j o hj)
            exact this.keep (fun k hk => hinv.same.block k (hpw k hk)) (fun r u h => getElem?_push_old h)
        · rw [hHl]
          exact hHR
      · intro i
        rw [List.mem_range]
        constructor
        · intro hi; exact ⟨hi, by simp [Array.getD, hi]⟩
        · exact fun h => h.1
      · have hfalse : ∀ (j : Nat), (Array.replicate ops.size false).getD j true = true → j < ops.size → False := by
          intro j h1 h2
          simp [Array.getD, h2] at h1
        have hlt : ∀ (j : Nat) (o : Oper), (idleL ia is 0 ops.toList)[j]? = some o → j < ops.size := by
          intro j o hj
          have : j < (idleL ia is 0 ops.toList).length := by
            rcases Nat.lt_or_ge j (idleL ia is 0 ops.toList).length with h' | h'
            · exact h'
            · rw [List.getElem?_eq_none h'] at hj; cases hj
          rw [idleL_len] at this
          simpa using this
        have hlt2 : ∀ (j : Nat) (o : Oper), ops.toList[j]? = some o → j < ops.size := by
          intro j o hj
          rcases Nat.lt_or_ge j ops.toList.length with h' | h'
          · simpa using h'
          · rw [List.getElem?_eq_none h'] at hj; cases hj
        refine ⟨hs.size, hs.defers, Same.refl _, by simp, fun j o av u hj ha hl hd => (hfalse j hl (hlt j o hj)).elim, fun u v hv _ _ => (hs.slots u v hv).same hsame (hs.lt hp), fun j o hj hl => (hfalse j hl (hlt2 j o hj)).elim, fun hl => ?_⟩
        obtain ⟨oa, hoa, _⟩ := hst.a
        exact (hfalse ia hl (hlt2 ia oa hoa)).elim
    · cases hk
  · cases hk

end
end Go.Sm
