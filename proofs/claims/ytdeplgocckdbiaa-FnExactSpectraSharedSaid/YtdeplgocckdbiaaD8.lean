/- What the functions hand back: level 7. -/
import Derived.Test.YtdeplgocckdbiaaD7
namespace Go.Sm.Ytdeplgocckdbiaa
open Go Go.Sm Go.RowKit Go.Proofs

/-! spec.l05Spectrum -/
def a83 : Ann := ann [(5, [0, 1, 2, 3, 10, 11], [10])] [8, 9] 0
def lp83 : St → (Ex → St → R) → R := fun s k => match s with
  | ⟨[(0, .fv (.vw (some 0) ⟨.line, xs⟩)), (1, .fv (.el (.sc (.fl .f32 b)))), (2, .fv (.el (.sc (.fl .f32 d)))), (3, .fv (.el (.sc (.int .i64 n)))), (10, .fv (.own 0)), (11, .fv (.el (.sc (.int .i64 i))))], [some ⟨30, ⟨.f32, zs⟩⟩]⟩ => (match ((decide (i = 0) && (Nat.ble xs.length big && (Nat.ble ((zs : List Nat).length + n.toNat) big && decide (n ≤ 1099511627776)))) : Bool) with
    | true => (match repE (fun j zs => bif linesAtOk xs (placeAt b d (j : Int)) then some (zs ++ [spAt xs b d j]) else none) (n.toNat) 0 ((zs : List Nat) : (List Nat)) with
      | some s => k (.exit 0) ⟨[(10, .fv (.own 0))], [some ⟨30, ⟨.f32, s⟩⟩]⟩
      | none => k .ret ⟨[(8, .fv (.nil)), (9, .fv (.el (.sc (.bo false))))], []⟩)
    | false => none)
  | _ => none
def l83 : Loops := fun key s k => bif Nat.beq key 5 then lp83 s k else none
theorem st83 (xs : List LineV) (b : Nat) (d : Nat) (n : Int) (i : Int) (zs : List Nat) (m : Nat) (k : Ex → St → R) : iterK a83 [0, 1, 2, 3, 10, 11] [10] (codeK T7 a83 l83 Try.f83.ntmps (loopAt Try.f83 0)) (m + 1) ⟨[(0, .fv (.vw (some 0) ⟨.line, xs⟩)), (1, .fv (.el (.sc (.fl .f32 b)))), (2, .fv (.el (.sc (.fl .f32 d)))), (3, .fv (.el (.sc (.int .i64 n)))), (10, .fv (.own 0)), (11, .fv (.el (.sc (.int .i64 i))))], [some ⟨30, ⟨.f32, zs⟩⟩]⟩ k = (match (decide ((i : Int) < n) : Bool) with
  | true => (match (Nat.ble xs.length big : Bool) with
    | true => (match (!(linesAtOk xs (placeAt b d i)) : Bool) with
      | true => k .ret ⟨[(8, .fv (.nil)), (9, .fv (.el (.sc (.bo false))))], []⟩
      | false => (match (Nat.beq 30 30 && decide ((zs : List Nat).length + ([orZero (linesAtOk xs (placeAt b d i)) (linesSum xs (placeAt b d i))] : List Nat).length ≤ 1099511627776) : Bool) with
        | true => iterK a83 [0, 1, 2, 3, 10, 11] [10] (codeK T7 a83 l83 Try.f83.ntmps (loopAt Try.f83 0)) m ⟨[(0, .fv (.vw (some 0) ⟨.line, xs⟩)), (1, .fv (.el (.sc (.fl .f32 b)))), (2, .fv (.el (.sc (.fl .f32 d)))), (3, .fv (.el (.sc (.int .i64 n)))), (10, .fv (.own 0)), (11, .fv (.el (.sc (.int .i64 (IntKind.i64.wrap (i + 1))))))], [some ⟨30, ⟨.f32, (zs : List Nat) ++ ([orZero (linesAtOk xs (placeAt b d i)) (linesSum xs (placeAt b d i))])⟩⟩]⟩ k
        | false => none))
    | false => none)
  | false => k (.exit 0) ⟨[(10, .fv (.own 0))], [some ⟨30, ⟨.f32, zs⟩⟩]⟩) := by kernel_rfl
theorem ind83 (xs : List LineV) (b : Nat) (d : Nat) (n : Int) (hx : (Nat.ble xs.length big) = true) (k : Ex → St → R) : ∀ (m j : Nat) (zs : List Nat), zs.length + m ≤ 1099511627776 → n ≤ 1099511627776 → 0 ≤ j → j + m = n.toNat → iterK a83 [0, 1, 2, 3, 10, 11] [10] (codeK T7 a83 l83 Try.f83.ntmps (loopAt Try.f83 0)) (m + 1) ⟨[(0, .fv (.vw (some 0) ⟨.line, xs⟩)), (1, .fv (.el (.sc (.fl .f32 b)))), (2, .fv (.el (.sc (.fl .f32 d)))), (3, .fv (.el (.sc (.int .i64 n)))), (10, .fv (.own 0)), (11, .fv (.el (.sc (.int .i64 (j : Int)))))], [some ⟨30, ⟨.f32, zs⟩⟩]⟩ k =
    (match repE (fun j zs => bif linesAtOk xs (placeAt b d (j : Int)) then some (zs ++ [spAt xs b d j]) else none) m j (zs : (List Nat)) with
    | some s => k (.exit 0) ⟨[(10, .fv (.own 0))], [some ⟨30, ⟨.f32, s⟩⟩]⟩
    | none => k .ret ⟨[(8, .fv (.nil)), (9, .fv (.el (.sc (.bo false))))], []⟩) := by
  intro m
  induction m with
  | zero =>
    intro j zs hs0 hs1 hlo hj
    have hx_ := big_le hx
    have h1 : ¬ ((j : Int) < n) := by omega
    rw [st83]
    simp only [h1, repE, decide_false, Int.toNat_natCast, List.length_singleton] <;> rfl
  | succ m ih =>
    intro j zs hs0 hs1 hlo hj
    have hx_ := big_le hx
    have h1 : (j : Int) < n := by omega
    have hbq : Nat.beq 30 30 = true := rfl
    have hzl : zs.length + 1 ≤ 1099511627776 := by omega
    have wn : IntKind.i64.wrap ((j : Int) + 1) = ((j + 1 : Nat) : Int) := wrapN (by omega) (by omega)
    rw [st83]
    simp only [h1, wn, hbq, hzl, and_self, decide_true, Bool.and_true, Int.le_refl, Int.toNat_natCast, List.length_singleton]
    rw [repE_succ]
    have r1 := ih (j + 1) (zs ++ [spAt xs b d j]) (by simp; omega) hs1 (by omega) (by omega)
    try rw [hx]
    try simp only [cond_true]
    have ep : fop .add .f32 b (fop .mul .f32 (fint .f32 (j : Int)) d) = placeAt b d (j : Int) := rfl
    try simp only [ep]
    cases hf : linesAtOk xs (placeAt b d (j : Int)) with
    | true => exact r1
    | false => rfl

theorem lk83 : LOK T7 a83 l83 Try.f83.ntmps (loopAt Try.f83 0) := by
  intro ins outs hA s k out h
  have hA' : ([0, 1, 2, 3, 10, 11], [10]) = (ins, outs) := Option.some.inj ((show a83.lp (firstRegion (loopAt Try.f83 0)) = some ([0, 1, 2, 3, 10, 11], [10]) by kernel_rfl).symm.trans hA)
  cases hA'
  have hk : firstRegion (loopAt Try.f83 0) = 5 := by kernel_rfl
  rw [hk] at h
  change lp83 s k = some out at h
  unfold lp83 at h
  split at h
  · rename_i xs b d n i zs
    cases hg : (decide (i = 0) && (Nat.ble xs.length big && (Nat.ble (zs.length + n.toNat) big && decide (n ≤ 1099511627776)))) with
    | false => rw [hg] at h; cases h
    | true =>
      rw [hg] at h
      simp only [Bool.and_eq_true, decide_eq_true_eq] at hg
      obtain ⟨rfl, hx, gs0, gs1⟩ := hg
      refine ⟨(n.toNat) + 1, ?_⟩
      have hx_ := big_le hx
      have gs0_ := big_le gs0
      exact (ind83 xs b d n hx k (n.toNat) 0 zs (by omega) (by omega) (by omega) (by omega)).trans h
  · cases h
theorem e83 (xs : List LineV) (b : Nat) (d : Nat) (n : Int) : runFn T7 a83 l83 Try.f83 [.vw none ⟨.line, xs⟩, .el (.sc (.fl .f32 b)), .el (.sc (.fl .f32 d)), .el (.sc (.int .i64 n))] = (match (Nat.ble xs.length big : Bool) with
  | true => (match (!(linesOk xs) : Bool) with
    | true => some ⟨[.nil, .el (.sc (.bo false))], none⟩
    | false => (match (!(fin b) : Bool) with
      | true => some ⟨[.nil, .el (.sc (.bo false))], none⟩
      | false => (match (!(fin d) : Bool) with
        | true => some ⟨[.nil, .el (.sc (.bo false))], none⟩
        | false => (match (!(within n 1 128) : Bool) with
          | true => some ⟨[.nil, .el (.sc (.bo false))], none⟩
          | false => (match ((decide (0 = 0) && (Nat.ble xs.length big && (Nat.ble (([] : List Nat).length + n.toNat) big && decide (n ≤ 1099511627776)))) : Bool) with
            | true => (match repE (fun j zs => bif linesAtOk xs (placeAt b d (j : Int)) then some (zs ++ [spAt xs b d j]) else none) (n.toNat) 0 (([] : List Nat) : (List Nat)) with
              | some s => some ⟨[.fresh 30 ⟨.f32, s⟩, .el (.sc (.bo true))], none⟩
              | none => some ⟨[.nil, .el (.sc (.bo false))], none⟩)
            | false => none)))))
  | false => none) := by kernel_rfl
theorem s83 (xs : List LineV) (b : Nat) (d : Nat) (n : Int) (hg : (Nat.ble xs.length big) = true) : runFn T7 a83 l83 Try.f83 [.vw none ⟨.line, xs⟩, .el (.sc (.fl .f32 b)), .el (.sc (.fl .f32 d)), .el (.sc (.int .i64 n))] = (match (spOk xs b d n : Bool) with
  | true => some ⟨[.fresh 30 ⟨.f32, spX xs b d n⟩, .el (.sc (.bo true))], none⟩
  | false => some ⟨[.nil, .el (.sc (.bo false))], none⟩) := by
  rw [e83]
  rw [hg]
  unfold spOk
  cases h1 : linesOk xs with
  | false => simp
  | true =>
    cases h2 : fin b with
    | false => simp [h2]
    | true =>
      cases h3 : fin d with
      | false => simp [h2, h3]
      | true =>
        cases h4 : within n 1 128 with
        | false => simp [h2, h3, h4]
        | true =>
          have h5 : 1 ≤ n ∧ n ≤ 128 := by
            unfold within at h4
            simpa using h4
          have h1b := h1
          unfold linesOk at h1b
          rw [Bool.and_eq_true, decide_eq_true_eq] at h1b
          have hx : Nat.ble xs.length big = true := big_of (by omega)
          have hz : Nat.ble (0 + n.toNat) big = true := big_of (by omega)
          have hz2 : Nat.ble n.toNat big = true := big_of (by omega)
          have hn : n ≤ 1099511627776 := by omega
          have e := sp_run xs b d n.toNat
          have hl : Nat.ble (spX xs b d n).length big = true := big_of (by rw [spX_len]; omega)
          have e2 : (fromTo 0 n.toNat).map (spAt xs b d) = spX xs b d n := rfl
          rw [e2] at e
          simp only [hx, hz, hz2, hn, e, List.length_nil, List.all_cons, List.all_nil, h2, h3, decide_true, Bool.and_self, Bool.not_true, Bool.true_and]
          cases h6 : spAll xs b d n.toNat with
          | false => simp
          | true => simp [hl]
theorem c83 (xs : List LineV) (b : Nat) (d : Nat) (n : Int) (k : List RV → R) (out : Out) (h : (match (Nat.ble xs.length big : Bool) with
  | true => k [.fresh 30 ⟨.f32, orNil (spOk xs b d n) (spX xs b d n)⟩, .el (.sc (.bo (spOk xs b d n)))]
  | false => none) = some out) : ∃ rs, Real Try.prog 83 ∧ COK Try.prog 83 [.vw none ⟨.line, xs⟩, .el (.sc (.fl .f32 b)), .el (.sc (.fl .f32 d)), .el (.sc (.int .i64 n))] rs ∧ k rs = some out := by
  cases g0 : (Nat.ble xs.length big : Bool) with
  | false =>
    rw [g0] at h
    cases h
  | true =>
    rw [g0] at h
    dsimp only at h
    cases g1 : (spOk xs b d n : Bool) with
    | true =>
      rw [g1] at h
      exact ⟨_, real Try.func83 (by kernel_rfl), fn_ok tok7 (A := a83) (L := l83) (r := none) Try.func83 (by kernel_rfl) (by kernel_rfl) (loops1 (by kernel_rfl) lk83) (by rw [s83 _ _ _ _ g0, g1]; rfl), h⟩
    | false =>
      rw [g1] at h
      exact ⟨_, real Try.func83 (by kernel_rfl), COK.nil (fn_ok tok7 (A := a83) (L := l83) (r := none) Try.func83 (by kernel_rfl) (by kernel_rfl) (loops1 (by kernel_rfl) lk83) (by rw [s83 _ _ _ _ g0, g1] <;> rfl)), h⟩

/-! slices.IndexFunc[[]impl.Line,impl.Line] -/
def a189 : Ann := ann [(2, [0, 1, 7, 8], [])] [4] 0
def lp189 : St → (Ex → St → R) → R := fun s k => match s with
  | ⟨[(0, .fv (.vw (some 0) ⟨.line, xs⟩)), (1, .fv (.fn 155 [])), (7, .fv (.el (.sc (.int .i64 n)))), (8, .fv (.el (.sc (.int .i64 i))))], []⟩ => (match (decide (n = (xs.length : Int)) && (decide (i = 0) && Nat.ble xs.length big) : Bool) with
    | true => (match xs.findIdx? notLine with
      | some q => k .ret ⟨[(4, .fv (.el (.sc (.int .i64 ((q : Int))))))], []⟩
      | none => k (.exit 0) ⟨[], []⟩)
    | false => none)
  | _ => none
def l189 : Loops := fun key s k => bif Nat.beq key 2 then lp189 s k else none
theorem st189 (xs : List LineV) (n : Int) (i : Int) (m : Nat) (k : Ex → St → R) : iterK a189 [0, 1, 7, 8] [] (codeK T7 a189 l189 Try.f189.ntmps (loopAt Try.f189 0)) (m + 1) ⟨[(0, .fv (.vw (some 0) ⟨.line, xs⟩)), (1, .fv (.fn 155 [])), (7, .fv (.el (.sc (.int .i64 n)))), (8, .fv (.el (.sc (.int .i64 i))))], []⟩ k = (match (decide ((i : Int) < n) : Bool) with
  | true => (match (decide (0 ≤ (i : Int) ∧ (i : Int) < (xs.length : Int)) && true : Bool) with
    | true => (match (xs : List LineV)[Int.toNat i]? with
      | some x1 => (match (notLine x1 : Bool) with
        | true => k .ret ⟨[(4, .fv (.el (.sc (.int .i64 i))))], []⟩
        | false => iterK a189 [0, 1, 7, 8] [] (codeK T7 a189 l189 Try.f189.ntmps (loopAt Try.f189 0)) m ⟨[(0, .fv (.vw (some 0) ⟨.line, xs⟩)), (1, .fv (.fn 155 [])), (7, .fv (.el (.sc (.int .i64 n)))), (8, .fv (.el (.sc (.int .i64 (IntKind.i64.wrap (i + 1))))))], []⟩ k)
      | none => none)
    | false => none)
  | false => k (.exit 0) ⟨[], []⟩) := by kernel_rfl
theorem ind189 (xs : List LineV) (hx : Nat.ble xs.length big = true) (k : Ex → St → R) : ∀ (m j : Nat), j + m = xs.length → iterK a189 [0, 1, 7, 8] [] (codeK T7 a189 l189 Try.f189.ntmps (loopAt Try.f189 0)) (m + 1) ⟨[(0, .fv (.vw (some 0) ⟨.line, xs⟩)), (1, .fv (.fn 155 [])), (7, .fv (.el (.sc (.int .i64 (xs.length : Int))))), (8, .fv (.el (.sc (.int .i64 (j : Int)))))], []⟩ k =
    (match (xs.drop j).findIdx? notLine with
    | some q => k .ret ⟨[(4, .fv (.el (.sc (.int .i64 ((j + q : Nat) : Int)))))], []⟩
    | none => k (.exit 0) ⟨[], []⟩) := by
  intro m
  induction m with
  | zero =>
    intro j hj
    have h1 : ¬ ((j : Int) < (xs.length : Int)) := by omega
    rw [st189]
    have h2 : xs.drop j = [] := List.drop_of_length_le (by omega)
    simp [h1, h2]
  | succ m ih =>
    intro j hj
    have hlt : j < xs.length := by omega
    have h1 : ((j : Int) < (xs.length : Int)) := by omega
    have h2 : (0 : Int) ≤ (j : Int) := by omega
    rw [st189, wrap_succ hlt hx]
    have h3 : xs[Int.toNat (j : Int)]? = some xs[j] := by simp [hlt]
    rw [List.drop_eq_getElem_cons hlt, List.findIdx?_cons]
    simp only [h1, h2, h3, and_self, decide_true, Bool.and_true]
    cases hp : notLine xs[j] with
    | true => simp
    | false =>
      rw [ih (j + 1) (by omega)]
      cases (xs.drop (j + 1)).findIdx? notLine with
      | none => rfl
      | some q => simp only [Bool.false_eq_true, if_false, Option.map_some]; rw [show j + 1 + q = j + (q + 1) by omega]
theorem lk189 : LOK T7 a189 l189 Try.f189.ntmps (loopAt Try.f189 0) := by
  intro ins outs hA s k out h
  have hA' : ([0, 1, 7, 8], []) = (ins, outs) := Option.some.inj ((show a189.lp (firstRegion (loopAt Try.f189 0)) = some ([0, 1, 7, 8], []) by kernel_rfl).symm.trans hA)
  cases hA'
  have hk : firstRegion (loopAt Try.f189 0) = 2 := by kernel_rfl
  rw [hk] at h
  change lp189 s k = some out at h
  unfold lp189 at h
  split at h
  · rename_i xs n i
    cases hg : (decide (n = (xs.length : Int)) && (decide (i = 0) && Nat.ble xs.length big)) with
    | false => rw [hg] at h; cases h
    | true =>
      rw [hg] at h
      simp only [Bool.and_eq_true, decide_eq_true_eq] at hg
      obtain ⟨rfl, rfl, hx⟩ := hg
      refine ⟨xs.length + 1, ?_⟩
      have := ind189 xs hx k xs.length 0 (by omega)
      simp only [List.drop_zero, Nat.zero_add] at this
      exact this.trans h
  · cases h
theorem e189 (xs : List LineV) : runFn T7 a189 l189 Try.f189 [.vw none ⟨.line, xs⟩, .fn 155 []] = (match (decide ((xs.length : Int) = (xs.length : Int)) && (decide (0 = 0) && Nat.ble xs.length big) : Bool) with
  | true => (match xs.findIdx? notLine with
    | some q => some ⟨[.el (.sc (.int .i64 ((q : Int))))], none⟩
    | none => some ⟨[.el (.sc (.int .i64 ((-1))))], none⟩)
  | false => none) := by kernel_rfl
theorem s189 (xs : List LineV) : runFn T7 a189 l189 Try.f189 [.vw none ⟨.line, xs⟩, .fn 155 []] = (match (Nat.ble xs.length big : Bool) with
  | true => some ⟨[.el (.sc (.int .i64 (firstAt notLine xs)))], none⟩
  | false => none) := by
  rw [e189]
  unfold firstAt
  cases h : Nat.ble xs.length big with
  | false => simp [h]
  | true =>
    cases h2 : xs.findIdx? notLine with
    | some q => simp [h, h2]
    | none => simp [h, h2]
theorem c189 (xs : List LineV) (k : List RV → R) (out : Out) (h : (match (Nat.ble xs.length big : Bool) with
  | true => k [.el (.sc (.int .i64 (firstAt notLine xs)))]
  | false => none) = some out) : ∃ rs, Real Try.prog 189 ∧ COK Try.prog 189 [.vw none ⟨.line, xs⟩, .fn 155 []] rs ∧ k rs = some out := by
  cases g0 : (Nat.ble xs.length big : Bool) with
  | true =>
    rw [g0] at h
    exact ⟨_, real Try.func189 (by kernel_rfl), fn_ok tok7 (A := a189) (L := l189) (r := none) Try.func189 (by kernel_rfl) (by kernel_rfl) (loops1 (by kernel_rfl) lk189) (by rw [s189, g0]), h⟩
  | false =>
    rw [g0] at h
    cases h

def S8 : SFn := fun f args k => match f, args with
  | 83, [.vw none ⟨.line, xs⟩, .el (.sc (.fl .f32 b)), .el (.sc (.fl .f32 d)), .el (.sc (.int .i64 n))] => (match (Nat.ble xs.length big : Bool) with
    | true => k [.fresh 30 ⟨.f32, orNil (spOk xs b d n) (spX xs b d n)⟩, .el (.sc (.bo (spOk xs b d n)))]
    | false => none)
  | 189, [.vw none ⟨.line, xs⟩, .fn 155 []] => (match (Nat.ble xs.length big : Bool) with
    | true => k [.el (.sc (.int .i64 (firstAt notLine xs)))]
    | false => none)
  | _, _ => S7 f args k
abbrev M8 : MFn := M7
def T8 : TT := tab.T S8 muts M8
theorem tok8 : TOK Try.prog T8 := by
  refine (tab_ok tabok).tok (fun f args k out h => ?_) (fun f vec args k out h => ?_)
  · change S8 f args k = some out at h
    unfold S8 at h
    split at h
    · exact (fun k out h => cok_call (c83 _ _ _ _ k out h)) k out h
    · exact (fun k out h => cok_call (c189 _ k out h)) k out h
    · exact tok7.S f args k out h
  · exact tok7.M f vec args k out h

end Go.Sm.Ytdeplgocckdbiaa
