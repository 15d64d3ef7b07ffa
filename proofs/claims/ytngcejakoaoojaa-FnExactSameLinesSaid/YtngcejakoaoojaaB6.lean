/- A function: what the machine says of its body, a call of it does. -/
import Derived.Test.YtngcejakoaoojaaB5
namespace Go.Sm
open Go Go.RowKit

/-- What the results' variables hold. -/
def resK (T : TT) (s : St) : List ResultVar → (List FV → R) → R
  | [], k => k []
  | .tmp t :: l, k => match lk s.sl t with
    | some (.fv v) => resK T s l fun vs => k (v :: vs)
    | _ => none
  | .cell a t :: l, k => match lk s.sl a with
    | some (.fv (.pt p)) => loadK T s.H t p fun v => resK T s l fun vs => k (v :: vs)
    | _ => none

def rvO (H : Hp) : FV → Option RV
  | .el e => some (.el e)
  | .nil => some .nil
  | .vw (some i) _ => some (.arg i)
  | .own r => match rowAt H r with
    | some row => some (.fresh row.e row.v)
    | none => none
  | _ => none

def rvAll (H : Hp) : List FV → Option (List RV)
  | [] => some []
  | x :: xs => match rvO H x, rvAll H xs with
    | some r, some rs => some (r :: rs)
    | _, _ => none

def notOwn (r : Nat) : List FV → Bool
  | [] => true
  | .own r' :: xs => !Nat.beq r r' && notOwn r xs
  | _ :: xs => notOwn r xs

def apartB : List FV → Bool
  | [] => true
  | .own r :: xs => notOwn r xs && apartB xs
  | _ :: xs => apartB xs

def argIn (i : Nat) : FV → FV
  | .vw none vec => .vw (some i) vec
  | x => x

def initSl : Nat → List FV → List (Nat × AV)
  | _, [] => []
  | i, x :: xs => (i, .fv (argIn i x)) :: initSl (i + 1) xs

/-- The end of a body. -/
def endK (m : Bool) (s : St) (vs : List FV) : R :=
  bif apartB vs then (match rvAll s.H vs with
    | some rs => some ⟨rs, bif m then rowAt s.H 0 else none⟩
    | none => none) else none

def finK (T : TT) (m : Bool) (rl : List ResultVar) : Ex → St → R
  | .exit _, _ => none
  | _, s => resK T s rl (endK m s)

/-- A function that only reads what it is handed. -/
def runF (T : TT) (A : Ann) (L : Loops) (nt : Nat) (c : Code) (rl : List ResultVar) (args : List FV) : R :=
  codeK T A L nt c ⟨initSl 0 args, []⟩ (finK T false rl)

/-- A function that writes its first argument's row. -/
def runM (T : TT) (A : Ann) (L : Loops) (nt : Nat) (c : Code) (rl : List ResultVar) (e : Nat) (vec : Vec) (args : List FV) : R :=
  codeK T A L nt c ⟨(0, .fv (.own 0)) :: initSl 1 args, [some ⟨e, vec⟩]⟩ (finK T true rl)

theorem endK_ok {m : Bool} {s : St} {vs : List FV} {out : Out} (h : endK m s vs = some out) : apartB vs = true ∧ rvAll s.H vs = some out.rs ∧ (m = true → rowAt s.H 0 = out.row) := by
  unfold endK at h
  cases ha : apartB vs with
  | false => rw [ha] at h; cases h
  | true =>
    rw [ha] at h
    simp only [cond_true] at h
    split at h
    · rename_i rs hrs
      cases h
      exact ⟨rfl, hrs, fun hm => by rw [hm]; rfl⟩
    · cases h

section
variable {P : Program} {T : TT} {A : Ann} {L : Loops} {Pr : Nat → Prop} {w0 : World} {cargs : List Value} {nt : Nat}

def resOne (tmps : Array Value) : ResultVar → Sem Value
  | .tmp t => pure (tmps.getD t undef)
  | .cell a t => do loadVar t (← asAddr (tmps.getD a undef))

theorem results_eq (fn : Func) (tmps : Array Value) : results fn tmps = (do
    let vs ← fn.results.mapM (resOne tmps)
    pure (if h : vs.size = 1 then vs[0] else .tuple vs)) := by
  have : (fun x => match x with
    | .tmp t => pure (tmps.getD t undef)
    | .cell a t => do loadVar t (← asAddr (tmps.getD a undef)) : ResultVar → Sem Value) = resOne tmps := by
    funext x
    cases x <;> rfl
  unfold results
  rw [← this]
  rfl

theorem resK_ok (hT : TOK P T) {s : St} {out : Out} : ∀ (l : List ResultVar) (k : List FV → R), resK T s l k = some out →
    ∃ vs, k vs = some out ∧ ∀ (w0 w : World) (Pr : Nat → Prop) (cargs : List Value) (nt : Nat) (a : Act) (ρ : List Value), (∀ k, Pr k → k < w0.heap.size) → SR Pr w0 cargs nt s a w ρ →
      ∃ us, (l.mapM (resOne a.tmps)).run P w = .ok us w ∧ AllR (FVR w Pr ρ cargs) vs us
  | [], k, h => ⟨[], h, fun w0 w Pr cargs nt a ρ hp hs => ⟨[], by simp, trivial⟩⟩
  | .tmp t :: l, k, h => by
    unfold resK at h
    split at h
    · rename_i v hv
      obtain ⟨vs, h1, h2⟩ := resK_ok hT l _ h
      refine ⟨v :: vs, h1, fun w0 w Pr cargs nt a ρ hp hs => ?_⟩
      obtain ⟨us, h3, h4⟩ := h2 w0 w Pr cargs nt a ρ hp hs
      refine ⟨a.tmps.getD t undef :: us, ?_, hs.slots t _ hv, h4⟩
      rw [List.mapM_cons]
      simp only [resOne, Sem.run_bind, Sem.run_pure, Result.andThen_ok, h3]
    · cases h
  | .cell x t :: l, k, h => by
    unfold resK at h
    split at h
    · rename_i p hv
      obtain ⟨v, h1, h2⟩ := loadK_ok hT h
      obtain ⟨vs, h3, h4⟩ := resK_ok hT l _ h1
      refine ⟨v :: vs, h3, fun w0 w Pr cargs nt a ρ hp hs => ?_⟩
      obtain ⟨us, h5, h6⟩ := h4 w0 w Pr cargs nt a ρ hp hs
      have hpt : PtR w Pr ρ p (a.tmps.getD x undef) := hs.slots x _ hv
      obtain ⟨u, h7, h8⟩ := h2 w Pr ρ cargs _ (hs.lt hp) hs.heap hpt
      obtain ⟨b, hb, _⟩ := PtR.add (o := 0) hpt
      refine ⟨u :: us, ?_, h8, h6⟩
      rw [List.mapM_cons]
      rw [hb] at h7
      have h7' : (loadVar t b).run P w = .ok u w := by simpa [Instr.loadAt, Instr.sureAddr] using h7
      simp only [resOne, hb, asAddr, Sem.run_bind, Sem.run_pure, Result.andThen_ok, h7', h5]
    · cases h

theorem results_run {fn : Func} {tmps : Array Value} {w : World} {us : List Value} (h : (fn.results.toList.mapM (resOne tmps)).run P w = .ok us w) : (results fn tmps).run P w = .ok (packV us) w := by
  rw [results_eq, Array.mapM_eq_mapM_toList]
  match us with
  | [] => simp [h, packV]
  | [v] => simp [h, packV]
  | v :: v' :: us => simp [h, packV]

theorem initSl_lk : ∀ (args : List FV) (i t : Nat) (v : AV), lk (initSl i args) t = some v → ∃ j x, t = i + j ∧ args[j]? = some x ∧ v = .fv (argIn t x)
  | [], i, t, v, h => by cases h
  | x :: xs, i, t, v, h => by
    unfold initSl at h
    rw [lk_cons] at h
    split at h
    · rename_i e
      cases h
      exact ⟨0, x, by omega, rfl, by rw [e]⟩
    · obtain ⟨j, y, h1, h2, h3⟩ := initSl_lk xs (i + 1) t v h
      exact ⟨j + 1, y, by omega, by simpa using h2, h3⟩

theorem argIn_ok {w : World} {ρ : List Value} {x : FV} {v : Value} {i : Nat} (h : FVR w Pr [] [] x v) (hi : cargs[i]? = some v) : FVR w Pr ρ cargs (argIn i x) v := by
  have hpt : ∀ p u, PtR w Pr [] p u → PtR w Pr ρ p u := by
    intro p u hp
    obtain ⟨b, sz, i, j⟩ := p
    cases b with
    | v vec => exact hp
    | r r =>
      obtain ⟨vr, g, h1, _⟩ := hp
      simp at h1
  cases x with
  | el e => exact h
  | nil => exact h
  | vw o vec =>
    obtain ⟨h1, h2⟩ := h
    cases o with
    | none => exact ⟨h1, fun j hj => by cases hj; exact hi⟩
    | some j => have := h2 j rfl; simp at this
  | own r => have : ([] : List Value)[r]? = some v := h; simp at this
  | pt p => exact hpt p v h
  | fn f caps =>
    obtain ⟨cs, h1, h2⟩ := h
    exact ⟨cs, h1, h2.mono hpt⟩

theorem notOwn_spec {r : Nat} : ∀ {xs : List FV}, notOwn r xs = true → ∀ (j r' : Nat), xs[j]? = some (.own r') → r ≠ r'
  | [], _, j, r', h => by simp at h
  | x :: xs, h, j, r', hj => by
    cases j with
    | zero =>
      simp at hj
      subst hj
      unfold notOwn at h
      rw [Bool.and_eq_true] at h
      intro e
      subst e
      rw [Nat.beq_refl] at h
      simp at h
    | succ j =>
      have : notOwn r xs = true := by
        unfold notOwn at h
        split at h
        · rename_i heq; cases heq
        · rename_i heq; cases heq; rw [Bool.and_eq_true] at h; exact h.2
        · rename_i heq; cases heq; exact h
      exact notOwn_spec this j r' (by simpa using hj)

theorem apartB_spec : ∀ {xs : List FV}, apartB xs = true → ∀ (i j r r' : Nat), i < j → xs[i]? = some (.own r) → xs[j]? = some (.own r') → r ≠ r'
  | [], _, i, j, r, r', _, h, _ => by simp at h
  | x :: xs, h, i, j, r, r', hij, hi, hj => by
    cases i with
    | zero =>
      simp at hi
      subst hi
      unfold apartB at h
      rw [Bool.and_eq_true] at h
      obtain ⟨q, rfl⟩ : ∃ q, j = q + 1 := ⟨j - 1, by omega⟩
      exact notOwn_spec h.1 q r' (by simpa using hj)
    | succ i =>
      obtain ⟨q, rfl⟩ : ∃ q, j = q + 1 := ⟨j - 1, by omega⟩
      have : apartB xs = true := by
        unfold apartB at h
        split at h
        · rename_i heq; cases heq
        · rename_i heq; cases heq; rw [Bool.and_eq_true] at h; exact h.2
        · rename_i heq; cases heq; exact h
      exact apartB_spec this i q r r' (by omega) (by simpa using hi) (by simpa using hj)

theorem rvAll_ok {w0 w : World} {ρ : List Value} {H : Hp} (hH : HR w Pr ρ H) (hpr : ∀ (r : Nat) (u : Value) (g : Nat), ρ[r]? = some u → u.ownBlock = some g → ¬ Pr g → w0.heap.size ≤ g) : ∀ {xs : List FV} {rs : List RV} {vs : List Value},
    rvAll H xs = some rs → AllR (FVR w Pr ρ cargs) xs vs → AllR (RVR w0 w cargs) rs vs ∧ ∀ (i : Nat) (r : RV) (v : Value), rs[i]? = some r → vs[i]? = some v → r.isFresh = true → ∃ j row, xs[i]? = some (.own j) ∧ ρ[j]? = some v ∧ rowAt H j = some row
  | [], rs, [], h, _ => by simp [rvAll] at h; subst h; exact ⟨trivial, fun i r v h => by simp at h⟩
  | x :: xs, rs, v :: vs, h, hv => by
    unfold rvAll at h
    split at h
    · rename_i r rs' hr hrs
      cases h
      obtain ⟨h1, h2⟩ := rvAll_ok hH hpr hrs hv.2
      have hx := hv.1
      refine ⟨⟨?_, h1⟩, fun i r' v' hi hvi hf => ?_⟩
      · unfold rvO at hr
        split at hr
        · cases hr; exact hx
        · cases hr; exact hx
        · cases hr; exact hx.2 _ rfl
        · rename_i r'
          split at hr
          · rename_i row hrow
            cases hr
            obtain ⟨v2, h3, vs2, h4, h5, h6⟩ := hH.row r' row hrow
            have : v2 = v := by
              have h7 : ρ[r']? = some v := hx
              rw [h3] at h7
              cases h7
              rfl
            subst this
            exact ⟨vs2, h4, h5, fun g hg => hpr r' _ g h3 hg (h6 g hg)⟩
          · cases hr
        · cases hr
      · cases i with
        | zero =>
          simp at hi hvi
          subst hi hvi
          unfold rvO at hr
          split at hr
          · cases hr; cases hf
          · cases hr; cases hf
          · cases hr; cases hf
          · rename_i r'
            split at hr
            · rename_i row hrow
              exact ⟨r', row, rfl, hx, hrow⟩
            · cases hr
          · cases hr
        | succ i =>
          obtain ⟨j, row, h3, h4, h5⟩ := h2 i r' v' (by simpa using hi) (by simpa using hvi) hf
          exact ⟨j, row, by simpa using h3, h4, h5⟩
    · cases h
  | [], _, _ :: _, _, hv => hv.elim
  | _ :: _, _, [], _, hv => hv.elim

theorem getD_args {cargs : List Value} {j n : Nat} {u : Value} (h : cargs[j]? = some u) : (cargs.toArray ++ Array.replicate n undef).getD j undef = u := by
  have hj : j < cargs.length := by
    rcases Nat.lt_or_ge j cargs.length with h' | h'
    · exact h'
    · rw [List.getElem?_eq_none h'] at h; cases h
  have : (cargs.toArray ++ Array.replicate n undef)[j]? = some u := by
    rw [Array.getElem?_append_left (by simpa using hj)]
    simpa using h
  simp [Array.getD_eq_getD_getElem?, this]

theorem rvs_apart {w0 w : World} {ρ : List Value} {H : Hp} (hH : HR w Pr ρ H) {xs : List FV} {rs : List RV} {vs : List Value} (ha : apartB xs = true)
    (h : ∀ (i : Nat) (r : RV) (v : Value), rs[i]? = some r → vs[i]? = some v → r.isFresh = true → ∃ j row, xs[i]? = some (.own j) ∧ ρ[j]? = some v ∧ rowAt H j = some row) (hall : AllR (RVR w0 w cargs) rs vs) : RVs w0 w cargs rs vs := by
  refine ⟨hall, fun i j r r' v v' g hne hi hj hf hf' hv hv' hg => ?_⟩
  obtain ⟨a, row, h1, h2, h3⟩ := h i r v hi hv hf
  obtain ⟨b, row', h4, h5, h6⟩ := h j r' v' hj hv' hf'
  have hab : a ≠ b := by
    rcases Nat.lt_or_gt_of_ne hne with h | h
    · exact apartB_spec ha i j a b h h1 h4
    · exact (apartB_spec ha j i b a h h4 h1).symm
  exact hH.apart a b row row' v v' g hab h3 h6 h2 h5 hg

/-- **A FUNCTION THAT ONLY READS WHAT IT IS HANDED.** -/
theorem runF_ok (hT : TOK P T) {f : Nat} {fn : Func} {c : Code} {rl : List ResultVar} {args : List FV} {out : Out} (hf : P.funcs[f]? = some fn) (hb : fn.body = some c) (hrl : fn.results.toList = rl) (hnt : args.length ≤ fn.ntmps)
    (hL : LoopsOk T A L fn.ntmps c) (h : runF T A L fn.ntmps c rl args = some out) : COK P f args out.rs := by
  subst hrl
  unfold runF at h
  intro w cargs hargs
  have hlen := hargs.length
  refine calls_of_wp hf hb ?_
  have hp : ∀ k, (fun k => k < w.heap.size) k → k < w.heap.size := fun _ h => h
  have hs : SR (fun k => k < w.heap.size) w cargs fn.ntmps ⟨initSl 0 args, []⟩ { tmps := cargs.toArray ++ Array.replicate (fn.ntmps - cargs.toArray.size) undef, defers := [] } w [] := by
    refine ⟨by simp; omega, rfl, fun t v hv => ?_, ⟨rfl, fun r row hr => by simp [rowAt] at hr, fun r r' row row' v v' g _ hr => by simp [rowAt] at hr⟩, Keep.refl _ _⟩
    obtain ⟨j, x, rfl, hx, rfl⟩ := initSl_lk args 0 t v hv
    obtain ⟨u, hu, hr⟩ := hargs.get j x hx
    rw [Nat.zero_add, getD_args hu]
    exact argIn_ok hr hu
  refine codeK_ok hT hp c hL _ _ out h _ _ w [] hs fun e s' a' w' ρ' hk hs' _ => ?_
  have main : resK T s' fn.results.toList (endK false s') = some out → a'.defers = [] ∧ ∃ v, (results fn a'.tmps).run P w' = .ok v w' ∧
      (∃ vs, Ending.returned v = .returned (packV vs) ∧ Same w w' ∧ RVs w w' cargs out.rs vs) := by
    intro hk
    obtain ⟨vs, h1, h2⟩ := resK_ok hT _ _ hk
    obtain ⟨us, h3, h4⟩ := h2 w w' _ cargs _ a' ρ' hp hs'
    obtain ⟨hap, hrv, _⟩ := endK_ok h1
    obtain ⟨h5, h6⟩ := rvAll_ok (w0 := w) hs'.heap (fun r u g _ _ h => Nat.not_lt.1 h) hrv h4
    exact ⟨hs'.defers, packV us, results_run h3, us, rfl, ⟨hs'.keep.os, hs'.keep.tape, hs'.keep.output, hs'.keep.size, hs'.keep.block⟩, rvs_apart hs'.heap hap h6 h5⟩
  cases e with
  | normal => exact main hk
  | ret => exact main hk
  | exit i => cases hk

theorem quietRV_spec : ∀ {rs : List RV}, quietRV rs = true → ∀ (i : Nat) (r : RV), rs[i]? = some r → r.isFresh = false
  | [], _, i, r, h => by simp at h
  | x :: rs, hq, i, r, h => by
    cases x with
    | el e =>
      cases i with
      | zero => simp at h; subst h; rfl
      | succ i => exact quietRV_spec (rs := rs) hq i r (by simpa using h)
    | nil => cases hq
    | fresh _ _ => cases hq
    | arg _ => cases hq

/-- **A FUNCTION THAT WRITES ITS FIRST ARGUMENT'S ROW.** -/
theorem runM_ok (hT : TOK P T) {f : Nat} {fn : Func} {c : Code} {rl : List ResultVar} {vec vec' : Vec} {args : List FV} {rs : List RV} (hf : P.funcs[f]? = some fn) (hb : fn.body = some c) (hrl : fn.results.toList = rl) (hnt : args.length + 1 ≤ fn.ntmps)
    (hL : LoopsOk T A L fn.ntmps c) (hA : 0 < A.nf) (hq : quietRV rs = true) (h : ∀ e, runM T A L fn.ntmps c rl e vec args = some ⟨rs, some ⟨e, vec'⟩⟩) : CMOK P f vec args rs vec' := by
  subst hrl
  intro w e v cargs hrow hargs
  have h := h e
  unfold runM at h
  have hlen := hargs.length
  refine calls_of_wp hf hb ?_
  have hp : ∀ k, (fun k => k < w.heap.size ∧ v.ownBlock ≠ some k) k → k < w.heap.size := fun _ h => h.1
  have hs : SR (fun k => k < w.heap.size ∧ v.ownBlock ≠ some k) w (v :: cargs) fn.ntmps ⟨(0, .fv (.own 0)) :: initSl 1 args, [some ⟨e, vec⟩]⟩
      { tmps := (v :: cargs).toArray ++ Array.replicate (fn.ntmps - (v :: cargs).toArray.size) undef, defers := [] } w [v] := by
    refine ⟨by simp; omega, rfl, fun t u hu => ?_, ⟨rfl, fun r row hr => ?_, fun r r' row row' u u' g hne hr hr' => ?_⟩, Keep.refl _ _⟩
    · rw [lk_cons] at hu
      split at hu
      · rename_i e
        subst e
        cases hu
        rw [getD_args (u := v) rfl]
        exact rfl
      · obtain ⟨j, x, rfl, hx, rfl⟩ := initSl_lk args 1 t u hu
        obtain ⟨y, hy, hr⟩ := hargs.get j x hx
        have hy' : (v :: cargs)[1 + j]? = some y := by rw [Nat.add_comm]; simpa using hy
        rw [getD_args hy']
        exact argIn_ok hr hy'
    · cases r with
      | zero =>
        have : row = ⟨e, vec⟩ := by simp [rowAt] at hr; exact hr.symm
        subst this
        obtain ⟨vs, h1, h2⟩ := hrow
        exact ⟨v, rfl, vs, h1, h2, fun g hg hpr => hpr.2 hg⟩
      | succ r => simp [rowAt] at hr
    · cases r with
      | zero =>
        cases r' with
        | zero => exact absurd rfl hne
        | succ r' => simp [rowAt] at hr'
      | succ r => simp [rowAt] at hr
  refine codeK_ok hT hp c hL _ _ _ h _ _ w [v] hs fun en s' a' w' ρ' hk hs' hext => ?_
  have hv0 : ρ'[0]? = some v := hext 0 v hA rfl
  have main : resK T s' fn.results.toList (endK true s') = some ⟨rs, some ⟨e, vec'⟩⟩ → a'.defers = [] ∧ ∃ u, (results fn a'.tmps).run P w' = .ok u w' ∧
      (∃ vs, Ending.returned u = .returned (packV vs) ∧ Keep (fun k => k < w.heap.size ∧ v.ownBlock ≠ some k) w w' ∧
        (∃ vs', w'.ownsRow 0 e vec'.k.sz v vec'.xs.length vs' ∧ AllR SCR vec'.cells vs') ∧ RVs w w' (v :: cargs) rs vs) := by
    intro hk
    obtain ⟨vs, h1, h2⟩ := resK_ok hT _ _ hk
    obtain ⟨us, h3, h4⟩ := h2 w w' _ (v :: cargs) _ a' ρ' hp hs'
    obtain ⟨_, hrs, hro⟩ := endK_ok h1
    obtain ⟨v2, h7, vs2, h8, h9, _⟩ := hs'.heap.row 0 ⟨e, vec'⟩ (hro rfl)
    rw [hv0] at h7
    cases h7
    have hall : ∀ {xs : List FV} {rs : List RV} {us : List Value}, rvAll s'.H xs = some rs → quietRV rs = true → AllR (FVR w' (fun k => k < w.heap.size ∧ v.ownBlock ≠ some k) ρ' (v :: cargs)) xs us → AllR (RVR w w' (v :: cargs)) rs us := by
      intro xs
      induction xs with
      | nil =>
        intro rs us hr _ hx
        cases us with
        | nil => simp [rvAll] at hr; subst hr; trivial
        | cons u us => exact hx.elim
      | cons x xs ih =>
        intro rs us hr hq hx
        cases us with
        | nil => exact hx.elim
        | cons u us =>
          unfold rvAll at hr
          split at hr
          · rename_i r rs' hr1 hr2
            cases hr
            cases r with
            | el el =>
              refine ⟨?_, ih hr2 hq hx.2⟩
              have h10 := hx.1
              unfold rvO at hr1
              split at hr1
              · cases hr1; exact h10
              · cases hr1
              · cases hr1
              · split at hr1 <;> cases hr1
              · cases hr1
            | nil => cases hq
            | fresh _ _ => cases hq
            | arg _ => cases hq
          · cases hr
    refine ⟨hs'.defers, packV us, results_run h3, us, rfl, hs'.keep, ⟨vs2, h8, h9⟩, hall hrs hq h4, fun i j r r' x x' g _ hi _ hf => ?_⟩
    rw [quietRV_spec hq i r hi] at hf
    cases hf
  cases en with
  | normal => exact main hk
  | ret => exact main hk
  | exit i => cases hk

end
end Go.Sm
