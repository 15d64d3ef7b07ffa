/- A drawn region whose last operations come in turn; ahead of them one slice of one element may be made. -/
import Derived.Test.YtngcejakoaoojaaB4a
namespace Go.Sm
open Go Go.RowKit

section
variable {P : Program} {T : TT} {Pr : Nat → Prop} {w0 : World} {cargs : List Value} {nt : Nat}

/-- One operation waits for another, by what stands in the text. -/
inductive Anc (os : List Oper) : Nat → Nat → Prop
  | edge (i : Nat) (o : Oper) (e : Go.Edge) : os[i]? = some o → e ∈ o.after → Region.binds .any e = true → Anc os e.on i
  | trans (j i : Nat) (o : Oper) (e : Go.Edge) : os[i]? = some o → e ∈ o.after → Region.binds .any e = true → Anc os j e.on → Anc os j i

theorem anc_listed {os : List Oper} {listed : Array Bool} (down : ∀ (j : Nat) (o : Oper), os[j]? = some o → listed.getD j true = true → ∀ e ∈ o.after, Region.binds .any e = true → listed.getD e.on true = true) {j i : Nat} (h : Anc os j i) :
    listed.getD i true = true → listed.getD j true = true := by
  induction h with
  | edge i o e h1 h2 h3 => exact fun hl => down i o h1 hl e h2 h3
  | trans j i o e h1 h2 h3 _ ih => exact fun hl => ih (down i o h1 hl e h2 h3)

theorem anc_ready {os : List Oper} {listed : Array Bool} (down : ∀ (j : Nat) (o : Oper), os[j]? = some o → listed.getD j true = true → ∀ e ∈ o.after, Region.binds .any e = true → listed.getD e.on true = true) {j i : Nat} (h : Anc os j i)
    {o : Oper} (ho : os[i]? = some o) (hall : ∀ e ∈ o.after, Region.binds .any e = true → listed.getD e.on true = true) : listed.getD j true = true := by
  cases h with
  | edge i o' e h1 h2 h3 =>
    rw [ho] at h1
    cases h1
    exact hall e h2 h3
  | trans j i o' e h1 h2 h3 h4 =>
    rw [ho] at h1
    cases h1
    exact anc_listed down h4 (hall e h2 h3)

/-! ### What the static look says -/

theorem uni_mem {n : Nat} : ∀ {a b : List Nat}, n ∈ uni a b → n ∈ a ∨ n ∈ b
  | [], b, h => .inr h
  | m :: a, b, h => by
    unfold uni at h
    cases hm : memN m (uni a b) with
    | true =>
      rw [hm] at h
      rcases uni_mem (a := a) h with h | h
      · exact .inl (List.mem_cons_of_mem _ h)
      · exact .inr h
    | false =>
      rw [hm] at h
      simp only [cond_false, List.mem_cons] at h
      rcases h with h | h
      · exact .inl (by simp [h])
      · rcases uni_mem (a := a) h with h | h
        · exact .inl (List.mem_cons_of_mem _ h)
        · exact .inr h

theorem ancsL_mem {acc : List (List Nat)} {n : Nat} : ∀ {es : List Go.Edge}, n ∈ ancsL acc es → ∃ e ∈ es, Region.binds .any e = true ∧ (n = e.on ∨ n ∈ acc.getD e.on [])
  | [], h => by cases h
  | e :: es, h => by
    unfold ancsL at h
    cases hb : Region.binds .any e with
    | false =>
      rw [hb] at h
      obtain ⟨e', h1, h2⟩ := ancsL_mem (es := es) h
      exact ⟨e', List.mem_cons_of_mem _ h1, h2⟩
    | true =>
      rw [hb] at h
      simp only [cond_true] at h
      rcases uni_mem h with h | h
      · rw [List.mem_cons] at h
        exact ⟨e, by simp, hb, h⟩
      · obtain ⟨e', h1, h2⟩ := ancsL_mem (es := es) h
        exact ⟨e', List.mem_cons_of_mem _ h1, h2⟩

theorem behind_spec {all : List Oper} {p : Nat} : ∀ {os : List Oper} {n : Nat} {acc : List (List Nat)}, behindFrom p n acc os = true → acc.length = n → (∀ i o, os[i]? = some o → all[n + i]? = some o) →
    (∀ k j, j ∈ acc.getD k [] → Anc all j k) → ∀ i o, os[i]? = some o → p ≤ n + i → ∀ j, j < n + i → Anc all j (n + i)
  | [], _, _, _, _, _, _, i, o, h => by simp at h
  | o1 :: os, n, acc, h, hn, hos, hacc, i, o, hi => by
    unfold behindFrom at h
    rw [Bool.and_eq_true] at h
    have h0 : all[n]? = some o1 := hos 0 o1 rfl
    have hl : ∀ j, j ∈ ancsL acc o1.after.toList → Anc all j n := by
      intro j hj
      obtain ⟨e, h1, h2, h3⟩ := ancsL_mem hj
      rcases h3 with rfl | h3
      · exact .edge n o1 e h0 (by simpa using h1) h2
      · exact .trans j n o1 e h0 (by simpa using h1) h2 (hacc _ _ h3)
    cases i with
    | zero =>
      intro hp j hj
      rw [Nat.add_zero] at hp hj ⊢
      rw [Bool.or_eq_true] at h
      rcases h.1 with h1 | h1
      · have := Nat.le_of_ble_eq_true h1
        omega
      · exact hl j (memN_iff.1 (List.all_eq_true.1 h1 j (List.mem_range.2 hj)))
    | succ i =>
      have := behind_spec (all := all) (os := os) (n := n + 1) (acc := acc ++ [ancsL acc o1.after.toList]) h.2 (by simp [hn]) (fun i o hi => by rw [show n + 1 + i = n + (i + 1) by omega]; exact hos (i + 1) o (by simpa using hi)) (fun k j hj => by
        rcases Nat.lt_trichotomy k n with hk | hk | hk
        · rw [List.getD_eq_getElem?_getD, List.getElem?_append_left (by omega)] at hj
          exact hacc k j (by rw [List.getD_eq_getElem?_getD]; exact hj)
        · subst hk
          have e : (acc ++ [ancsL acc o1.after.toList])[k]? = some (ancsL acc o1.after.toList) := by rw [← hn]; simp
          rw [List.getD_eq_getElem?_getD, e] at hj
          exact hl j hj
        · have e : (acc ++ [ancsL acc o1.after.toList])[k]? = none := List.getElem?_eq_none (by simp; omega)
          rw [List.getD_eq_getElem?_getD, e] at hj
          cases hj) i o (by simpa using hi)
      rwa [show n + 1 + i = n + (i + 1) by omega] at this

theorem findB_spec : ∀ {os : List Oper} {n ib t x b : Nat}, findB n os = some (ib, t, x, b) → ∃ i o parts, ib = n + i ∧ os[i]? = some o ∧ o.op = .buildSlice t 1 parts ∧ parts.toList = [(0, .tmp x)] ∧ o.dst = some b ∧ o.guard = none
  | [], n, ib, t, x, b, h => by cases h
  | o :: os, n, ib, t, x, b, h => by
    unfold findB at h
    split at h
    · rename_i t' parts b' h1 h2 h3
      split at h
      · rename_i x' h4
        cases h
        exact ⟨0, o, parts, rfl, rfl, h1, h4, h2, h3⟩
      · obtain ⟨i, o', parts', h1, h2⟩ := findB_spec h
        exact ⟨i + 1, o', parts', by omega, by simpa using h2⟩
    · obtain ⟨i, o', parts', h1, h2⟩ := findB_spec h
      exact ⟨i + 1, o', parts', by omega, by simpa using h2⟩

/-! ### The slice that is made -/

theorem build_run (hT : TOK P T) {o : Oper} {t e x : Nat} {kd : K} {parts : Array (Nat × Operand)} {el : Elt} {a' : kd.ty} (hop : o.op = .buildSlice t 1 parts) (hparts : parts.toList = [(0, .tmp x)]) (hsl : T.sl t = some e) (hek : T.ek e = some kd) (hg : kd.g el = some a') (a : Act) (w : World)
    (hx : ElR el (a.tmps.getD x undef)) :
    Yields P o a w fun v w' => Same w w' ∧ ∃ g vs, v.ownBlock = some g ∧ w.heap.size ≤ g ∧ w'.ownsRow 0 e kd.sz v 1 vs ∧ AllR SCR (kd.f a').cells vs := by
  let kk : AV → Hp → R := fun av H => match av, H with
    | .fv (.own 0), [some row] => some ⟨[], some row⟩
    | _, _ => none
  have hrun : opK T false (.buildSlice t 1 parts) ⟨[(x, .fv (.el el))], []⟩ kk = some ⟨[], some ⟨e, ⟨kd, [a']⟩⟩⟩ := by
    have e1 : evO ⟨[(x, .fv (.el el))], []⟩ (.tmp x) = some (.el el) := by
      unfold evO
      dsimp only
      rw [lk_cons, if_pos rfl]
    have e2 : evParts ⟨[(x, .fv (.el el))], []⟩ parts.toList = some [(0, .el el)] := by
      rw [hparts]
      unfold evParts
      rw [e1]
      rfl
    have e3 : fillVec kd [(0, .el el)] (List.replicate 1 kd.z) = some [a'] := by
      unfold fillVec
      rw [hg]
      simp [fillVec]
    unfold opK
    simp only [cond_false, hsl, e2, hek, e3]
    rfl
  obtain ⟨av, H', hk, hdoes⟩ := does_buildSlice hT hop hrun
  dsimp only [kk] at hk
  split at hk
  · rename_i row
    simp only [Option.some.injEq, Out.mk.injEq, true_and] at hk
    subst hk
    have hH : HR w (fun k => k < w.heap.size) [] [] := ⟨rfl, fun r row h => by simp [rowAt] at h, fun r r' row row' v v' g _ h => by simp [rowAt] at h⟩
    refine (hdoes a w (fun k => k < w.heap.size) [] [] (fun _ h => h) hH (Opd.of_slots fun t' _ v hv => ?_)).mono fun v w' ⟨ρ', _, hav, hHR, hkeep⟩ => ?_
    · rw [lk_cons] at hv
      split at hv
      · rename_i e1
        subst e1
        cases hv
        exact hx
      · cases hv
    · obtain ⟨v2, h4, vs, h5, h6, h7⟩ := hHR.row 0 ⟨e, ⟨kd, [a']⟩⟩ rfl
      have hav' : ρ'[0]? = some v := hav
      rw [hav'] at h4
      cases h4
      rw [flat1] at h6
      have hown : ∃ g, v.ownBlock = some g := by
        rcases h5.2 with h8 | ⟨g, cap, cur, rfl, _⟩
        · exact absurd h8.2 (by simp)
        · exact ⟨g, rfl⟩
      obtain ⟨g, hgo⟩ := hown
      exact ⟨⟨hkeep.os, hkeep.tape, hkeep.output, hkeep.size, hkeep.block⟩, g, vs, hgo, Nat.not_lt.1 (h7 g hgo), h5, h6⟩
  · cases hk


/-- What the static look says of the whole: 'p': the first that comes in turn; 'ib': the slice that is made ('p' or more: none). -/
structure StatB (ops : Array Oper) (ib p b x t nt : Nat) : Prop where
  draw : drawOk ops = true
  pl : p ≤ ops.toList.length
  behind : ∀ (i : Nat) (o : Oper), ops.toList[i]? = some o → p ≤ i → ∀ j, j < i → Anc ops.toList j i
  bs : ib < p → (∃ o parts, ops.toList[ib]? = some o ∧ o.op = .buildSlice t 1 parts ∧ parts.toList = [(0, .tmp x)] ∧ o.dst = some b ∧ o.guard = none) ∧ b ≠ x ∧ b < nt
  clear : ∀ (i : Nat) (o : Oper), i < p → ops.toList[i]? = some o → ib < p → (i ≠ ib → o.dst ≠ some b ∧ b ∉ o.looksAt ops) ∧ (ib < i → o.dst ≠ some x)

/-- The slice that is made, as the machine has it. -/
structure Made (T : TT) (s' : St) (x t : Nat) (e : Nat) (kd : K) (el : Elt) (a' : kd.ty) : Prop where
  sl : T.sl t = some e
  ek : T.ek e = some kd
  lx : lk s'.sl x = some (.fv (.el el))
  g : kd.g el = some a'

/-- What holds on the way, up to those that come in turn. -/
structure InvB (Pr : Nat → Prop) (w1 : World) (ρ cargs : List Value) (nt : Nat) (ops : Array Oper) (ib p b e : Nat) (kd : K) (a' : kd.ty) (s : St) (avs : List AV) (listed : Array Bool) (a : Act) (w : World) : Prop where
  size : a.tmps.size = nt
  defers : a.defers = []
  same : Same w1 w
  lsize : listed.size = ops.size
  done : ∀ (j : Nat) (o : Oper) (av : AV) (u : Nat), (idleL ib ib 0 (ops.toList.take p))[j]? = some o → avs[j]? = some av → listed.getD j true = true → o.dst = some u → AVR w1 Pr ρ cargs av (a.tmps.getD u undef)
  still : ∀ (u : Nat) (v : AV), lk s.sl u = some v → (ib < p → u ≠ b) → (∀ (j : Nat) (o : Oper), (idleL ib ib 0 (ops.toList.take p))[j]? = some o → o.dst = some u → listed.getD j true = false) → AVR w1 Pr ρ cargs v (a.tmps.getD u undef)
  down : ∀ (j : Nat) (o : Oper), ops.toList[j]? = some o → listed.getD j true = true → ∀ e ∈ o.after, Region.binds .any e = true → listed.getD e.on true = true
  ext : ib < p → listed.getD ib true = true → ∃ g vs, (a.tmps.getD b undef).ownBlock = some g ∧ w1.heap.size ≤ g ∧ w.ownsRow 0 e kd.sz (a.tmps.getD b undef) 1 vs ∧ AllR SCR (kd.f a').cells vs
  suf : ∀ i, p ≤ i → i < ops.size → listed.getD i true = false

theorem front_get {ops : Array Oper} {ib p j : Nat} {o : Oper} (h : (idleL ib ib 0 (ops.toList.take p))[j]? = some o) : j < p ∧ ∃ q, ops.toList[j]? = some q ∧ o = if j = ib then idle q else q := by
  rw [idleL_get] at h
  obtain ⟨q, h1, h2⟩ := Option.map_eq_some_iff.1 h
  rw [List.getElem?_take] at h1
  split at h1
  · rename_i hj
    refine ⟨hj, q, h1, ?_⟩
    rw [← h2]
    simp
  · cases h1

theorem front_real {ops : Array Oper} {ib p j u : Nat} {o : Oper} (h : (idleL ib ib 0 (ops.toList.take p))[j]? = some o) (hd : o.dst = some u) : j < p ∧ ops.toList[j]? = some o ∧ j ≠ ib := by
  obtain ⟨h1, q, h2, h3⟩ := front_get h
  split at h3
  · subst h3; cases hd
  · rename_i hne
    subst h3
    exact ⟨h1, h2, hne⟩

theorem front_of {ops : Array Oper} {ib p j : Nat} {o : Oper} (hp : j < p) (h : ops.toList[j]? = some o) (hne : j ≠ ib) : (idleL ib ib 0 (ops.toList.take p))[j]? = some o := by
  rw [idleL_get, List.getElem?_take, if_pos hp, h]
  simp [hne]

theorem Guard.front {ops : Array Oper} {ib p : Nat} {g : Option (Nat × Bool)} {s s1 : St} {b : Bool} (h : Guard (idleL ib ib 0 (ops.toList.take p)) g s b s1) : Guard ops.toList g s b s1 := by
  cases h with
  | always h => exact .always h
  | test j want b o d h1 h2 h3 h4 => exact .test j want b o d h1 (front_real h2 h3).2.1 h3 h4
  | skip j want o d h1 h2 h3 h4 => exact .skip j want o d h1 (front_real h2 h3).2.1 h3 h4

theorem looks_build {ops : Array Oper} {o : Oper} {t n x : Nat} {parts : Array (Nat × Operand)} (h : o.op = .buildSlice t n parts) (hp : parts.toList = [(0, .tmp x)]) : x ∈ o.looksAt ops := by
  unfold Oper.looksAt
  rw [h]
  refine List.mem_append_left _ ?_
  have : parts = #[(0, .tmp x)] := by rw [← hp]
  subst this
  simp [Op.operands]

/-- **ONE OPERATION AHEAD OF THOSE THAT COME IN TURN.** -/
theorem invB_step (hT : TOK P T) {ops : Array Oper} {ib p b x t : Nat} (hst : StatB ops ib p b x t nt) {e : Nat} {kd : K} {el : Elt} {a' : kd.ty}
    {s s' : St} {avs : List AV} (hpath : Path P (idleL ib ib 0 (ops.toList.take p)) nt (idleL ib ib 0 (ops.toList.take p)) s avs s') (hm : ib < p → Made T s' x t e kd el a') {w1 : World} {ρ : List Value} (hp : ∀ k, Pr k → k < w1.heap.size) (hH : HR w1 Pr ρ s.H)
    {listed : Array Bool} {a : Act} {w : World} (hinv : InvB Pr w1 ρ cargs nt ops ib p b e kd a' s avs listed a w) {i : Nat} (hr : i ∈ Region.ready .any ops listed) (hip : i < p) {Q : Exit → Act → World → Prop} {K : Act → World → Prop}
    (hK : ∀ a2 w2, InvB Pr w1 ρ cargs nt ops ib p b e kd a' s avs (listed.setIfInBounds i true) a2 w2 → K a2 w2) : wpOp P ops Q i K a w := by
  obtain ⟨hun, o, ho, hall⟩ := mem_ready.1 hr
  have ho' : ops.toList[i]? = some o := by rw [← ho]; simp
  have hil : i < ops.toList.length := by
    rcases Nat.lt_or_ge i ops.toList.length with h' | h'
    · exact h'
    · rw [List.getElem?_eq_none h'] at ho'; cases ho'
  have hil' : i < listed.size := by rw [hinv.lsize]; simpa using hil
  have spec := draw_spec (all := ops) (n := 0) hst.draw
  simp only [Nat.zero_add] at spec
  have hp' : ∀ k, Pr k → k < w.heap.size := fun k hk => Nat.lt_of_lt_of_le (hp k hk) hinv.same.size
  have hdown : ∀ (j : Nat) (o' : Oper), ops.toList[j]? = some o' → (listed.setIfInBounds i true).getD j true = true → ∀ e' ∈ o'.after, Region.binds .any e' = true → (listed.setIfInBounds i true).getD e'.on true = true := by
    intro j o' hj hl e' he' hb'
    rw [getD_listed hil'] at hl ⊢
    split
    · rfl
    · by_cases e2 : i = j
      · subst e2
        rw [ho'] at hj
        cases hj
        exact getD_false (hall e' he' hb')
      · rw [if_neg e2] at hl
        exact hinv.down j o' hj hl e' he' hb'
  have hsuf : ∀ j, p ≤ j → j < ops.size → (listed.setIfInBounds i true).getD j true = false := by
    intro j h1 h2
    rw [getD_listed hil', if_neg (by omega)]
    exact hinv.suf j h1 h2
  have hstill : ∀ (u : Nat) (v : AV), lk s.sl u = some v → (ib < p → u ≠ b) → (∀ (j : Nat) (o' : Oper), (idleL ib ib 0 (ops.toList.take p))[j]? = some o' → o'.dst = some u → (listed.setIfInBounds i true).getD j true = false) → AVR w1 Pr ρ cargs v (a.tmps.getD u undef) := by
    intro u v hu hud hno
    refine hinv.still u v hu hud fun j o' hj hd => ?_
    have := hno j o' hj hd
    rw [getD_listed hil'] at this
    split at this
    · cases this
    · exact this
  have hother : ∀ (j : Nat) (o' : Oper) (av' : AV) (u : Nat), j ≠ i → (idleL ib ib 0 (ops.toList.take p))[j]? = some o' → avs[j]? = some av' → (listed.setIfInBounds i true).getD j true = true → o'.dst = some u → AVR w1 Pr ρ cargs av' (a.tmps.getD u undef) := by
    intro j o' av' u hne hj ha hl hd
    rw [getD_listed hil', if_neg (Ne.symm hne)] at hl
    exact hinv.done j o' av' u hj ha hl hd
  unfold wpOp
  rw [ho]
  dsimp only
  by_cases hib : i = ib
  · -- THE SLICE THAT IS MADE
    subst hib
    obtain ⟨⟨ob, parts, hob, hopb, hparts, hdstb, hgb⟩, hbx, hbn⟩ := hst.bs hip
    rw [hob] at ho'
    cases ho'
    obtain ⟨m1, m2, m3, m4⟩ := hm hip
    have hw : Region.wanted o (yielded ops a.tmps) = true := by unfold Region.wanted; rw [hgb]
    rw [if_pos hw]
    have hxv : ElR el (a.tmps.getD x undef) := by
      have : AVR w1 Pr ρ cargs (.fv (.el el)) (a.tmps.getD x undef) := by
        rcases hpath.final m3 with ⟨j, o', h1, h2, h3⟩ | ⟨h1, h2⟩
        · obtain ⟨hjp, hj, hne⟩ := front_real h1 h2
          rcases Nat.lt_trichotomy j i with h8 | h8 | h8
          · refine hinv.done j o' _ x h1 h3 ?_ h2
            have hpr := (spec j o' hj).2 i o h8 hob
            rcases (pair_spec hpr).1 with ⟨e', he', hb', hon⟩ | ⟨hno, _⟩
            · have := hall e' he' hb'
              rw [hon] at this
              exact getD_false this
            · exact absurd (looks_build hopb hparts) (hno x h2)
          · exact absurd h8 hne
          · exact absurd h2 ((hst.clear j o' hjp hj hip).2 h8)
        · exact hinv.still x _ h1 (fun _ => Ne.symm hbx) fun j o' hj hd => absurd hd (h2 j o' hj)
      exact this
    refine .inl ((build_run hT hopb hparts m1 m2 m4 a w hxv).wp ?_)
    rintro v w' ⟨hs, g, vs, h2, h3, h4, h5⟩
    have hgd : ∀ u, (a.put o.dst v).tmps.getD u undef = if b = u then v else a.tmps.getD u undef := by
      intro u
      rw [hdstb]
      simp only [Act.put]
      rw [getD_set _ _ _ _ (by rw [hinv.size]; exact hbn)]
    refine hK _ _ ⟨?_, ?_, hinv.same.trans hs, by simp [hinv.lsize], fun j o' av' u hj ha hl hd => ?_, fun u v' hu hud hno => ?_, hdown, fun _ _ => ?_, hsuf⟩
    · rw [hdstb]; simp [Act.put, hinv.size]
    · rw [hdstb]; exact hinv.defers
    · obtain ⟨hjp, hj', hne⟩ := front_real hj hd
      have hud : b ≠ u := fun e' => ((hst.clear j o' hjp hj' hip).1 hne).1 (by rw [e']; exact hd)
      rw [hgd u, if_neg hud]
      exact hother j o' av' u hne hj ha hl hd
    · rw [hgd u, if_neg (Ne.symm (hud hip))]
      exact hstill u v' hu hud hno
    · rw [hgd b, if_pos rfl]
      exact ⟨g, vs, h2, Nat.le_trans hinv.same.size h3, h4, h5⟩
  · -- ANY OTHER
    have hoi := front_of hip ho' hib
    obtain ⟨av, hav⟩ : ∃ av, avs[i]? = some av := ⟨_, List.getElem?_eq_getElem (by rw [hpath.len, idleL_len, List.length_take]; omega)⟩
    obtain ⟨hdst, si, s1, hsH, hstep, hslots⟩ := hpath.at hoi hav
    have hlook : ∀ u, u ∈ o.looksAt ops → ∀ v, lk si.sl u = some v → AVR w Pr ρ cargs v (a.tmps.getD u undef) := by
      intro u hu v hv
      refine AVR.same (w := w1) ?_ hinv.same hp
      have hud : ib < p → u ≠ b := fun hlt e' => ((hst.clear i o hip ho' hlt).1 hib).2 (by rw [← e']; exact hu)
      rcases hslots u v hv with ⟨j, o', h1, h2, h3, h4⟩ | ⟨h1, h2⟩
      · obtain ⟨_, h2', _⟩ := front_real h2 h3
        have hpr := ((spec j o' h2').2 i o h1 ho')
        rcases (pair_spec hpr).1 with ⟨e', he', hb', hon⟩ | ⟨hno, _⟩
        · refine hinv.done j o' v u h2 h4 ?_ h3
          have := hall e' he' hb'
          rw [hon] at this
          exact getD_false this
        · exact absurd hu (hno u h3)
      · refine hinv.still u v h1 hud fun j o' hj hd => ?_
        rcases Nat.lt_trichotomy j i with hlt' | heq | hgt
        · exact absurd hd (h2 j o' hlt' hj)
        · subst heq; exact hun
        · cases hl : listed.getD j true with
          | false => rfl
          | true =>
            obtain ⟨_, hj', _⟩ := front_real hj hd
            have hpr := (spec i o ho').2 j o' hgt hj'
            rcases (pair_spec hpr).1 with ⟨e', he', hb', hon⟩ | ⟨_, hno⟩
            · have := hinv.down j o' hj' hl e' he' hb'
              rw [hon, hun] at this
              cases this
            · exact absurd hu (hno u hd)
    have hnext : ∀ (v : Value) (w' : World), AVR w Pr ρ cargs av v → Same w w' → K (a.put o.dst v) w' := by
      intro v w' hv hs
      have hv1 : AVR w1 Pr ρ cargs av v := hv.back hinv.same hp
      refine hK _ _ ?_
      have hgd : ∀ (u : Nat), (a.put o.dst v).tmps.getD u undef = if o.dst = some u then v else a.tmps.getD u undef := by
        intro u
        cases hd : o.dst with
        | none => simp [Act.put]
        | some d' =>
          have hlt' : d' < a.tmps.size := by rw [hinv.size]; rw [hd] at hdst; exact of_decide_eq_true hdst
          simp only [Act.put]
          rw [getD_set _ _ _ _ hlt']
          simp
      refine ⟨?_, ?_, hinv.same.trans hs, by simp [hinv.lsize], fun j o' av' u hj ha hl hd => ?_, fun u v' hu hud hno => ?_, hdown, fun hlt hl => ?_, hsuf⟩
      · cases o.dst <;> simp [Act.put, hinv.size]
      · cases o.dst <;> exact hinv.defers
      · rw [hgd u]
        by_cases e' : j = i
        · subst e'
          rw [hoi] at hj
          cases hj
          rw [hav] at ha
          cases ha
          rw [if_pos hd]
          exact hv1
        · obtain ⟨_, hj', _⟩ := front_real hj hd
          have hne : o.dst ≠ some u := by
            rcases Nat.lt_or_gt_of_ne e' with h | h
            · exact fun h2 => (pair_spec ((spec j o' hj').2 i o h ho')).2 u hd h2
            · intro h2; exact (pair_spec ((spec i o ho').2 j o' h hj')).2 u h2 hd
          rw [if_neg hne]
          exact hother j o' av' u e' hj ha hl hd
      · rw [hgd u]
        have hne : o.dst ≠ some u := by
          intro h2
          have := hno i o hoi h2
          rw [getD_listed hil', if_pos rfl] at this
          cases this
        rw [if_neg hne]
        exact hstill u v' hu hud hno
      · rw [getD_listed hil', if_neg hib] at hl
        obtain ⟨g, vs, e2, e3, e4, e5⟩ := hinv.ext hlt hl
        have hb : (a.put o.dst v).tmps.getD b undef = a.tmps.getD b undef := by
          rw [hgd b, if_neg ((hst.clear i o hip ho' hlt).1 hib).1]
        rw [hb]
        exact ⟨g, vs, e2, e3, ownsRow_keep (fun g' hg' => hs.block g' ((e4.lt g' hg').2)) e4, e5⟩
    have hmem : ∀ u, optIn (some u) (o.looksAt ops) = true → u ∈ o.looksAt ops := fun u h => memN_iff.1 h
    rcases hstep with ⟨hg', hq⟩ | ⟨hg', rfl⟩
    · rw [if_pos (hg'.front.wanted (w := w) (Pr := Pr) (ρ := ρ) (cargs := cargs) fun u hd v hv => hlook u (hmem u hd) v hv)]
      refine .inl ((hq a w Pr ρ cargs hp' ?_ (Opd.of_slots fun u hu v hv => ?_)).wp fun v w' ⟨h1, h2⟩ => hnext v w' h1 h2)
      · rw [hg'.same.2, hsH]
        exact hH.keep hinv.same.block
      · refine hlook u ?_ v (by rw [← hg'.same.1 u]; exact hv)
        unfold Oper.looksAt
        refine List.mem_append_left _ (List.mem_filterMap.2 ⟨.tmp u, by simpa using hu, rfl⟩)
    · rw [if_neg (by rw [hg'.front.wanted (w := w) (Pr := Pr) (ρ := ρ) (cargs := cargs) fun u hd v hv => hlook u (hmem u hd) v hv]; exact Bool.false_ne_true)]
      exact hnext undef w rfl (Same.refl w)

theorem lt_size {ops : Array Oper} {i : Nat} {o : Oper} (h : ops.toList[i]? = some o) : i < ops.size := by
  rcases Nat.lt_or_ge i ops.toList.length with h' | h'
  · simpa using h'
  · rw [List.getElem?_eq_none h'] at h; cases h

/-- **THOSE THAT COME IN TURN.** -/
theorem turn_ok (hT : TOK P T) (nf : Nat) (hp : ∀ k, Pr k → k < w0.heap.size) {ops : Array Oper} {ib p b x t : Nat} (hst : StatB ops ib p b x t nt) {Q : Exit → Act → World → Prop} {out : Out} {k : St → R} : ∀ (os : List Oper) (i : Nat) (s : St) (listed : Array Bool) (a : Act) (w : World) (ρ : List Value),
    ops.toList.drop i = os → p ≤ i → i + os.length = ops.size → listed.size = ops.size → (∀ j, j < ops.size → (listed.getD j true = true ↔ j < i)) → opsK T false nt ops.toList os s k = some out → SR Pr w0 cargs nt s a w ρ →
    (∀ s' a' w' ρ', k s' = some out → SR Pr w0 cargs nt s' a' w' ρ' → Ext nf ρ ρ' → Q .normal a' w') → wpAny P .any ops Q os.length listed a w
  | [], i, s, listed, a, w, ρ, hd, hpi, hil, hsz, hl, h, hs, hQ => by
    refine ⟨?_, hQ s a w ρ h hs (Ext.refl _ _)⟩
    apply List.eq_nil_iff_forall_not_mem.2
    intro j hj
    obtain ⟨h1, o, ho, _⟩ := mem_ready.1 hj
    have hj' : j < ops.size := lt_size (o := o) (by rw [← ho]; simp)
    have := (hl j hj').2 (by simp at hil; omega)
    rw [h1] at this
    cases this
  | o :: os, i, s, listed, a, w, ρ, hd, hpi, hil, hsz, hl, h, hs, hQ => by
    have hlen : i < ops.size := by simp at hil; omega
    have ho : ops.toList[i]? = some o := by
      have := congrArg (·[0]?) hd
      simpa using this
    have hun : listed.getD i true = false := by
      cases hb : listed.getD i true with
      | false => rfl
      | true => have := (hl i hlen).1 hb; omega
    have hdown : ∀ (j : Nat) (o' : Oper), ops.toList[j]? = some o' → listed.getD j true = true → ∀ e ∈ o'.after, Region.binds .any e = true → listed.getD e.on true = true := by
      intro j o' hj hlj e he hb
      have h1 := (draw_spec (all := ops) (n := 0) hst.draw j o' hj).1 e he hb
      have h2 := (hl j (lt_size hj)).1 hlj
      have h3 := lt_size hj
      simp only [Nat.zero_add] at h1
      exact (hl e.on (by omega)).2 (by omega)
    have hready : i ∈ Region.ready .any ops listed := by
      refine mem_ready.2 ⟨hun, o, by rw [← ho]; simp, fun e he hb => ?_⟩
      have hon := (draw_spec (all := ops) (n := 0) hst.draw i o ho).1 e he hb
      simp only [Nat.zero_add] at hon
      have htrue := (hl e.on (by omega)).2 hon
      have hls : e.on < listed.size := by rw [hsz]; omega
      simp [Array.getD, hls] at htrue ⊢
      exact htrue
    refine ⟨fun hempty => ?_, fun j hj => ?_⟩
    · rw [hempty] at hready; cases hready
    · obtain ⟨h1, o', ho', hall⟩ := mem_ready.1 hj
      have ho'' : ops.toList[j]? = some o' := by rw [← ho']; simp
      have hj' : j < ops.size := lt_size ho''
      have hij : j = i := by
        rcases Nat.lt_trichotomy j i with h2 | h2 | h2
        · rw [(hl j hj').2 h2] at h1; cases h1
        · exact h2
        · have := anc_ready hdown (hst.behind j o' ho'' (by omega) i h2) ho'' (fun e he hb => getD_false (hall e he hb))
          rw [hun] at this
          cases this
      subst hij
      rw [ho] at ho''
      cases ho''
      unfold opsK at h
      cases hdst : dstOk nt o.dst with
      | false => rw [hdst] at h; cases h
      | true =>
        rw [hdst] at h
        simp only [cond_true] at h
        obtain ⟨bb, s1, hg, h2⟩ := guardK_ok h
        have hw : Region.wanted o (yielded ops a.tmps) = bb := hg.wanted (w := w) (Pr := Pr) (ρ := ρ) (cargs := cargs) fun d _ v hv => hs.slots d v hv
        have hs1 := hs.guard hg
        have hl2 : ∀ q, q < ops.size → ((listed.setIfInBounds j true).getD q true = true ↔ q < j + 1) := by
          intro q hq
          rw [getD_listed (by rw [hsz]; exact hlen)]
          by_cases e : j = q
          · subst e; simp
          · rw [if_neg e, hl q hq]; omega
        have hd2 : ops.toList.drop (j + 1) = os := by
          rw [← List.drop_drop, hd]
          rfl
        unfold wpOp
        rw [ho']
        dsimp only
        rw [hw]
        cases bb with
        | false =>
          simp only [Bool.false_eq_true, if_false] at h2 ⊢
          exact turn_ok hT nf hp hst os (j + 1) _ _ _ w ρ hd2 (by omega) (by simp at hil; omega) (by simp [hsz]) hl2 h2 (hs1.put hdst (fun _ _ h => h) rfl hs1.heap (Keep.refl _ _)) hQ
        | true =>
          simp only [if_true] at h2 ⊢
          obtain ⟨av, H', hk, hdoes⟩ := opK_does hT h2
          refine .inl ((hdoes a w Pr ρ cargs (hs.lt hp) hs1.heap (Opd.of_slots fun t _ v hv => hs1.slots t v hv)).wp ?_)
          rintro v w' ⟨ρ', hr, hv, hH, hkeep⟩
          exact turn_ok hT nf hp hst os (j + 1) _ _ _ w' ρ' hd2 (by omega) (by simp at hil; omega) (by simp [hsz]) hl2 hk (hs1.put hdst hr hv hH hkeep) fun s2 a2 w2 ρ2 h2 hs2 he => hQ s2 a2 w2 ρ2 h2 hs2 fun r u h3 h4 => he r u h3 (hr r u h4)

/-- The operations ahead, in whatever order; then those in turn. -/
theorem invB_any (hT : TOK P T) {ops : Array Oper} {ib p b x t : Nat} (hst : StatB ops ib p b x t nt) {e : Nat} {kd : K} {el : Elt} {a' : kd.ty}
    {s s' : St} {avs : List AV} (hpath : Path P (idleL ib ib 0 (ops.toList.take p)) nt (idleL ib ib 0 (ops.toList.take p)) s avs s') (hm : ib < p → Made T s' x t e kd el a') {w1 : World} {ρ : List Value} (hp : ∀ k, Pr k → k < w1.heap.size) (hH : HR w1 Pr ρ s.H)
    {Q : Exit → Act → World → Prop} (hQ : ∀ (listed : Array Bool) (a : Act) (w : World), InvB Pr w1 ρ cargs nt ops ib p b e kd a' s avs listed a w → (∀ j, j < ops.size → (listed.getD j true = true ↔ j < p)) → wpAny P .any ops Q (ops.toList.drop p).length listed a w) :
    ∀ (fuel : Nat) (left : List Nat) (listed : Array Bool) (a : Act) (w : World), left.length = fuel → left.Nodup → (∀ i, i ∈ left ↔ i < p ∧ listed.getD i true = false) → InvB Pr w1 ρ cargs nt ops ib p b e kd a' s avs listed a w → wpAny P .any ops Q (fuel + (ops.toList.drop p).length) listed a w := by
  have hpl : p ≤ ops.size := by simpa using hst.pl
  intro fuel
  induction fuel with
  | zero =>
    intro left listed a w hl hn hleft hinv
    have hnil : left = [] := List.eq_nil_of_length_eq_zero hl
    subst hnil
    rw [Nat.zero_add]
    refine hQ listed a w hinv fun j hj => ?_
    constructor
    · intro h
      rcases Nat.lt_or_ge j p with h2 | h2
      · exact h2
      · rw [hinv.suf j h2 hj] at h; cases h
    · intro h
      cases hb : listed.getD j true with
      | true => rfl
      | false => exact absurd ((hleft j).2 ⟨h, hb⟩) (by simp)
  | succ fuel ih =>
    intro left listed a w hl hn hleft hinv
    have hex : ∃ i, i ∈ left := by
      cases left with
      | nil => simp at hl
      | cons i l => exact ⟨i, by simp⟩
    rw [show fuel + 1 + (ops.toList.drop p).length = fuel + (ops.toList.drop p).length + 1 by omega]
    refine ⟨fun hempty => ?_, fun i hi => ?_⟩
    · exfalso
      obtain ⟨i0, hi0⟩ := hex
      have hmin : ∃ i, i ∈ left ∧ ∀ j, j < i → j ∉ left := by
        have key : ∀ n i, i ≤ n → i ∈ left → ∃ i, i ∈ left ∧ ∀ j, j < i → j ∉ left := by
          intro n
          induction n with
          | zero => intro i hi him; exact ⟨i, him, fun j hj => by omega⟩
          | succ n ihn =>
            intro i hi him
            by_cases h : ∃ j, j < i ∧ j ∈ left
            · obtain ⟨j, hj, hjm⟩ := h
              exact ihn j (by omega) hjm
            · exact ⟨i, him, fun j hj hjm => h ⟨j, hj, hjm⟩⟩
        exact key i0 i0 (Nat.le_refl _) hi0
      obtain ⟨i, him, hmini⟩ := hmin
      obtain ⟨hlt, hun⟩ := (hleft i).1 him
      obtain ⟨o, ho⟩ : ∃ o, ops[i]? = some o := ⟨_, Array.getElem?_eq_getElem (by omega)⟩
      have ho' : ops.toList[i]? = some o := by rw [← ho]; simp
      have hready : i ∈ Region.ready .any ops listed := by
        refine mem_ready.2 ⟨hun, o, ho, fun e he hb => ?_⟩
        have hon := (draw_spec (all := ops) (n := 0) hst.draw i o ho').1 e he hb
        simp only [Nat.zero_add] at hon
        have hnl : e.on ∉ left := hmini _ hon
        have htrue : listed.getD e.on true = true := by
          cases hb2 : listed.getD e.on true with
          | true => rfl
          | false => exact absurd ((hleft _).2 ⟨by omega, hb2⟩) hnl
        have hls : e.on < listed.size := by rw [hinv.lsize]; omega
        simp [Array.getD, hls] at htrue ⊢
        exact htrue
      rw [hempty] at hready
      cases hready
    · obtain ⟨h1, o, ho, hall⟩ := mem_ready.1 hi
      have ho' : ops.toList[i]? = some o := by rw [← ho]; simp
      have hlt := lt_size ho'
      have hip : i < p := by
        rcases Nat.lt_or_ge i p with h2 | h2
        · exact h2
        · exfalso
          obtain ⟨j, hj⟩ := hex
          obtain ⟨hjp, hju⟩ := (hleft j).1 hj
          have := anc_ready hinv.down (hst.behind i o ho' h2 j (by omega)) ho' (fun e he hb => getD_false (hall e he hb))
          rw [hju] at this
          cases this
      have him : i ∈ left := (hleft i).2 ⟨hip, h1⟩
      refine invB_step hT hst hpath hm hp hH hinv hi hip fun a2 w2 hinv' => ih (left.erase i) _ a2 w2 ?_ (hn.erase i) (fun j => ?_) hinv'
      · rw [List.length_erase_of_mem him, hl]; rfl
      · rw [hn.mem_erase_iff, hleft j, getD_listed (by rw [hinv.lsize]; exact hlt)]
        constructor
        · rintro ⟨hne, h2, h3⟩; exact ⟨h2, by rw [if_neg (Ne.symm hne)]; exact h3⟩
        · rintro ⟨h2, h3⟩
          split at h3
          · cases h3
          · rename_i e; exact ⟨Ne.symm e, h2, h3⟩

/-- What the machine says of the slice that is made. -/
theorem bldK_ok {ib p t x b : Nat} {s' : St} {k : St → R} {out : Out} (h : bldK T ib p t x b s' k = some out) :
    (ib < p ∧ ∃ e kd el a', Made T s' x t e kd el a' ∧ k ⟨(b, .fv (.own s'.H.length)) :: s'.sl, s'.H ++ [some ⟨e, ⟨kd, [a']⟩⟩]⟩ = some out) ∨ (¬ ib < p ∧ k s' = some out) := by
  unfold bldK at h
  cases hb : Nat.blt ib p with
  | false =>
    rw [hb] at h
    refine .inr ⟨fun hlt => ?_, h⟩
    have : Nat.blt ib p = true := Nat.ble_eq_true_of_le hlt
    rw [hb] at this
    cases this
  | true =>
    rw [hb] at h
    simp only [cond_true] at h
    split at h
    · rename_i e he
      split at h
      · rename_i kd el hek hx
        split at h
        · rename_i a' hg
          exact .inl ⟨Nat.le_of_ble_eq_true hb, e, kd, el, a', ⟨he, hek, hx, hg⟩, h⟩
        · cases h
      · cases h
    · cases h

/-- **A REGION IN WHATEVER ORDER, THE LAST ONES IN TURN.** -/
theorem drawnB_ok (hT : TOK P T) (hp : ∀ k, Pr k → k < w0.heap.size) {ops : Array Oper} {ib p b x t : Nat} (hst : StatB ops ib p b x t nt) {Q : Exit → Act → World → Prop} {out : Out} {k : St → R} {id : Nat} {s : St} {a : Act} {w : World} {ρ : List Value}
    (h : opsK T true nt (idleL ib ib 0 (ops.toList.take p)) (idleL ib ib 0 (ops.toList.take p)) s (fun s' => bldK T ib p t x b s' fun s2 => opsK T false nt ops.toList (ops.toList.drop p) s2 k) = some out)
    (hs : SR Pr w0 cargs nt s a w ρ) (nf : Nat) (hQ : ∀ s' a' w' ρ', k s' = some out → SR Pr w0 cargs nt s' a' w' ρ' → Ext nf ρ ρ' → Q .normal a' w') : (Code.region id ops true).wp P Q a w := by
  obtain ⟨avs, s', hpath, hk⟩ := opsK_path hT _ _ h
  have hpl : p ≤ ops.size := by simpa using hst.pl
  have hsame : Same w { w with drawn := w.drawn + 1 } := Same.drew w
  have hpw : ∀ k, Pr k → k < ({ w with drawn := w.drawn + 1 } : World).heap.size := hs.lt hp
  have hH : HR ({ w with drawn := w.drawn + 1 } : World) Pr ρ s.H := hs.heap.keep hsame.block
  have hdl : (ops.toList.drop p).length = ops.size - p := by simp
  refine wp_region_any hT.mo ?_
  have start : ∀ (e : Nat) (kd : K) (a' : kd.ty), InvB Pr ({ w with drawn := w.drawn + 1 } : World) ρ cargs nt ops ib p b e kd a' s avs (Array.replicate ops.size false) a { w with drawn := w.drawn + 1 } := by
    intro e kd a'
    have hfalse : ∀ (j : Nat), (Array.replicate ops.size false).getD j true = true → j < ops.size → False := by
      intro j h1 h2
      simp [Array.getD, h2] at h1
    refine ⟨hs.size, hs.defers, Same.refl _, by simp, fun j o av u hj ha hl hd => (hfalse j hl (lt_size (front_real hj hd).2.1)).elim, fun u v hv _ _ => (hs.slots u v hv).same hsame (hs.lt hp), fun j o hj hl => (hfalse j hl (lt_size hj)).elim, fun hlt hl => (hfalse ib hl (by omega)).elim, fun i _ h2 => by simp [Array.getD, h2]⟩
  have all0 : ∀ i, i ∈ List.range p ↔ i < p ∧ (Array.replicate ops.size false).getD i true = false := by
    intro i
    rw [List.mem_range]
    constructor
    · intro hi; exact ⟨hi, by have : i < ops.size := by omega
                              simp [Array.getD, this]⟩
    · exact fun h => h.1
  -- the slots at the end of the first part
  have slotsAt : ∀ (e : Nat) (kd : K) (a' : kd.ty) (listed : Array Bool) (a2 : Act) (w2 : World), InvB Pr ({ w with drawn := w.drawn + 1 } : World) ρ cargs nt ops ib p b e kd a' s avs listed a2 w2 → (∀ j, j < ops.size → (listed.getD j true = true ↔ j < p)) →
      ∀ u v, lk s'.sl u = some v → (ib < p → u ≠ b) → AVR ({ w with drawn := w.drawn + 1 } : World) Pr ρ cargs v (a2.tmps.getD u undef) := by
    intro e kd a' listed a2 w2 hinv hlist u v hv hub
    rcases hpath.final hv with ⟨j, o, h1, h2, h3⟩ | ⟨h1, h2⟩
    · have hj := front_real h1 h2
      exact hinv.done j o v u h1 h3 ((hlist j (lt_size hj.2.1)).2 hj.1) h2
    · exact hinv.still u v h1 hub fun j o hj hd => absurd hd (h2 j o hj)
  rw [show ops.size = p + (ops.toList.drop p).length by rw [hdl]; omega]
  have hrep : Array.replicate (p + (ops.toList.drop p).length) false = Array.replicate ops.size false := by rw [hdl]; congr 1; omega
  rw [hrep]
  rcases bldK_ok hk with ⟨hlt, e, kd, el, a', hmade, hk2⟩ | ⟨hlt, hk2⟩
  · refine invB_any (cargs := cargs) hT hst hpath (fun _ => hmade) hpw hH (fun listed a2 w2 hinv hlist => ?_) p (List.range p) _ a _ (by simp) List.nodup_range all0 (start e kd a')
    obtain ⟨g, vs, e2, e3, e4, e5⟩ := hinv.ext hlt ((hlist ib (by omega)).2 hlt)
    generalize hvr : a2.tmps.getD b undef = vr at e2 e4
    have hHl : s'.H = s.H := hpath.heap
    have hnew : RowR w2 Pr vr e ⟨kd, [a']⟩ := by
      refine ⟨vs, e4, by rw [flat1]; exact e5, fun g' hg' hpr => ?_⟩
      rw [e2] at hg'
      cases hg'
      exact absurd (hpw g hpr) (Nat.not_lt.2 e3)
    have hHR : HR w2 Pr (ρ ++ [vr]) (s.H ++ [some ⟨e, ⟨kd, [a']⟩⟩]) := hH.push hinv.same.block hnew fun g' hg' => by rw [e2] at hg'; cases hg'; exact e3
    refine turn_ok hT nf hp hst (ops.toList.drop p) p _ listed a2 w2 (ρ ++ [vr]) rfl (Nat.le_refl _) (by rw [hdl]; omega) hinv.lsize hlist hk2 ⟨hinv.size, hinv.defers, fun u v hv => ?_, by rw [hHl]; exact hHR, hs.keep.trans (Keep.of_below (hsame.trans hinv.same) (hs.lt hp))⟩
      fun s3 a3 w3 ρ3 h3 hs3 he => hQ s3 a3 w3 ρ3 h3 hs3 fun r u h4 h5 => he r u h4 (getElem?_push_old h5)
    rw [lk_cons] at hv
    split at hv
    · rename_i e6
      subst e6
      cases hv
      show (ρ ++ [vr])[s'.H.length]? = some (a2.tmps.getD b undef)
      rw [hHl, ← hH.len, hvr]
      simp
    · rename_i hne
      exact (slotsAt e kd a' listed a2 w2 hinv hlist u v hv fun _ => Ne.symm hne).keep (fun k hk => hinv.same.block k (hpw k hk)) (fun r u h => getElem?_push_old h)
  · refine invB_any (cargs := cargs) (e := 0) (kd := .i64) (el := .ag []) (a' := (0 : Int)) hT hst hpath (fun h => absurd h hlt) hpw hH (fun listed a2 w2 hinv hlist => ?_) p (List.range p) _ a _ (by simp) List.nodup_range all0 (start 0 .i64 (0 : Int))
    refine turn_ok hT nf hp hst (ops.toList.drop p) p _ listed a2 w2 ρ rfl (Nat.le_refl _) (by rw [hdl]; omega) hinv.lsize hlist hk2 ⟨hinv.size, hinv.defers, fun u v hv => ?_, ?_, hs.keep.trans (Keep.of_below (hsame.trans hinv.same) (hs.lt hp))⟩ hQ
    · exact (slotsAt 0 .i64 (0 : Int) listed a2 w2 hinv hlist u v hv fun h => absurd h hlt).keep (fun k hk => hinv.same.block k (hpw k hk)) (fun r u h => h)
    · rw [hpath.heap]
      exact hH.keep hinv.same.block

end
end Go.Sm
