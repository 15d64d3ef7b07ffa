/- append, and calls that make memory or write: what the machine says, the model does. -/
import Derived.Test.YtngcejakoaoojaaA9
namespace Go.Sm
open Go Go.RowKit

section
variable {P : Program} {T : TT}

theorem cast_ok {v : Vec} {q : K} {ys : List q.ty} (h : v.cast q = some ys) : v = ⟨q, ys⟩ := by
  obtain ⟨k, xs⟩ := v
  unfold Vec.cast at h
  dsimp only at h
  split at h
  · rename_i e
    subst e
    cases h
    rfl
  · cases h

/-- A new row, whatever world it came in. -/
theorem HR.push' {w : World} {Pr : Nat → Prop} {ρ : List Value} {H : Hp} {v : Value} {e : Nat} {vec : Vec} (hH : HR w Pr ρ H)
    (hr : RowR w Pr v e vec) (hn : ∀ g, v.ownBlock = some g → ∀ (r : Nat) (row : Row) (u : Value), rowAt H r = some row → ρ[r]? = some u → u.ownBlock ≠ some g) : HR w Pr (ρ ++ [v]) (H ++ [some ⟨e, vec⟩]) := by
  refine ⟨by simp [hH.len], fun r row hrow => ?_, fun r r' row row' u u' g hne h1 h2 h3 h4 h5 h6 => ?_⟩
  · rcases rowAt_push hrow with h | ⟨rfl, h⟩
    · obtain ⟨u, h1, h2⟩ := hH.row r row h
      exact ⟨u, getElem?_push_old h1, h2⟩
    · cases h
      exact ⟨v, by rw [← hH.len]; simp, hr⟩
  · rcases rowAt_push h1 with a | ⟨ra, a⟩ <;> rcases rowAt_push h2 with b | ⟨rb, b⟩
    · obtain ⟨x, hx, _⟩ := hH.row r row a
      obtain ⟨y, hy, _⟩ := hH.row r' row' b
      have hx' := getElem?_push_old (v := v) hx
      have hy' := getElem?_push_old (v := v) hy
      rw [h3] at hx'
      rw [h4] at hy'
      cases hx'
      cases hy'
      exact hH.apart r r' row row' _ _ g hne a b hx hy h5 h6
    · obtain ⟨x, hx, hxr⟩ := hH.row r row a
      have hx' := getElem?_push_old (v := v) hx
      rw [h3] at hx'
      cases hx'
      subst rb
      rw [← hH.len] at h4
      simp at h4
      subst h4
      exact hn g h6 r row _ a hx h5
    · obtain ⟨y, hy, hyr⟩ := hH.row r' row' b
      have hy' := getElem?_push_old (v := v) hy
      rw [h4] at hy'
      cases hy'
      subst ra
      rw [← hH.len] at h3
      simp at h3
      subst h3
      exact hn g h5 r' row' _ b hy h6
    · omega

/-- A row that is given up. -/
theorem HR.drop {w : World} {Pr : Nat → Prop} {ρ : List Value} {H : Hp} (hH : HR w Pr ρ H) (r : Nat) : HR w Pr ρ (H.set r none) := by
  have key : ∀ {r' : Nat} {row' : Row}, rowAt (H.set r none) r' = some row' → r ≠ r' ∧ rowAt H r' = some row' := by
    intro r' row' h
    rcases rowAt_set h with h | ⟨_, h⟩
    · exact h
    · cases h
  refine ⟨by rw [List.length_set]; exact hH.len, fun r' row' h => hH.row r' row' (key h).2, fun r1 r2 row1 row2 v1 v2 g hne h1 h2 h3 h4 h5 => ?_⟩
  exact hH.apart r1 r2 row1 row2 v1 v2 g hne (key h1).2 (key h2).2 h3 h4 h5

/-- append: where the row lies behind it. -/
theorem append_own (w : World) (t ty e : Nat) (i : TypeInfo) (z : Value) (size : Nat) (ht : P.underlying t = some (.slice e)) (hi : P.info? e = some i) (hz : i.zero = some z)
    (hsize : i.size = size) (hzs : z.cells.size = size) (hsz : 0 < size) (v : Value) (n : Nat) (xs : List Value) (hown : w.ownsRow 0 e size v n xs)
    (a : Addr) (m c : Nat) (news : List Value) (hl : news.length = m * size) (hnews : ∀ (j : Nat) (u : Value), news[j]? = some u → w.cell? (a.add j) = some u) (h1 : ∀ u ∈ news, u.oneCell' = true)
    (h63 : n + m ≤ maxLen) (hbytes : (n + m) * i.bytes ≤ 140737488355328) :
    ∃ v' w', (Builtin.append_ #[t, t] ty #[v, .slice (some a) m c]).run P w = .ok v' w' ∧ w'.ownsRow 0 e size v' (n + m) (xs ++ news) ∧ w.grownBy w' v.ownBlock ∧
      ∀ g, v'.ownBlock = some g → v.ownBlock = some g ∨ w.heap.size ≤ g := by
  obtain ⟨v', w', h2, h3, h4, h5⟩ := run_append_own (P := P) w 0 t ty e i z size i.bytes ht hi hz hsize rfl hzs hsz v n xs hown a m c news hl hnews h1 h63 hbytes (Nat.zero_le _)
  refine ⟨v', w', h2, h3, h4, ?_⟩
  intro g hg
  have hml : n + m ≤ 9223372036854775807 := by unfold maxLen at h63; omega
  rcases hown.2 with ⟨rfl, rfl⟩ | ⟨g', cap, cur, rfl, hb, hgg, hnc, hcm, hcs, htake⟩
  · by_cases hm : m = 0
    · rw [h5.2 ⟨rfl, hm⟩] at hg
      simp [Value.ownBlock] at hg
    · have hb : m * i.bytes ≤ 281474976710656 := by simp only [Nat.zero_add] at hbytes; omega
      have hr := run_append_nil (P := P) w t ty e i z ht hi hz a m c news (by rw [hsize]; exact hl) hnews (by omega) (by omega) hb
      rw [h2] at hr
      cases hr
      simp only [Value.ownBlock, Option.some.injEq] at hg
      exact .inr (by omega)
  · by_cases hroom : n + m ≤ cap
    · have hfit : n * i.size + news.length ≤ cur.size := by rw [hl, hcs, hsize, ← Nat.add_mul]; exact Nat.mul_le_mul_right _ hroom
      have hr := run_append_room (P := P) w t ty e i ht hi g' n cap cur hgg a m c news (by rw [hsize]; exact hl) hnews h1 hroom hfit
      rw [h2] at hr
      cases hr
      exact .inl hg
    · have holds : ∀ (j : Nat) (u : Value), xs[j]? = some u → w.cell? ((⟨g', 0, none⟩ : Addr).add j) = some u := hown.cells (g := g') rfl
      have hr := run_append_grow (P := P) w t ty e i z ht hi hz ⟨g', 0, none⟩ n cap xs (by rw [hsize]; exact hown.1) holds a m c news (by rw [hsize]; exact hl) hnews (by omega) (by omega) (growslice_fits (by omega) hbytes)
      rw [h2] at hr
      cases hr
      simp only [Value.ownBlock, Option.some.injEq] at hg
      exact .inr (by omega)

/-- What a slice holds, as values. -/
theorem slice_values {w : World} {a : Addr} {vec : Vec} (h : CellsR w a vec.cells) :
    ∃ news, news.length = vec.xs.length * vec.k.sz ∧ AllR SCR vec.cells news ∧ (∀ (j : Nat) (u : Value), news[j]? = some u → w.cell? (a.add j) = some u) ∧ ∀ u ∈ news, u.oneCell' = true := by
  obtain ⟨vs, h1, h2, h3⟩ := cells_list (n := 0) (m := vec.cells.length) h (by omega)
  simp only [List.drop_zero, List.take_length] at h2
  refine ⟨vs, by rw [h1, vec.len_cells], h2, ?_, ?_⟩
  · intro j u hu
    have := h3 j u hu
    rwa [show a.add 0 = a from by simp [Addr.add]] at this
  · intro u hu
    obtain ⟨j, hj⟩ := List.getElem?_of_mem hu
    obtain ⟨c, _, hcu⟩ := h2.getR j u hj
    exact hcu.one

theorem cells_append (q : K) (zs ys : List q.ty) : Vec.cells ⟨q, zs ++ ys⟩ = Vec.cells ⟨q, zs⟩ ++ Vec.cells ⟨q, ys⟩ := by simp [Vec.cells]

theorem does_append (hT : TOK P T) {o : Oper} {s : St} {k : AV → Hp → R} {out : Out} {args : Array Operand} {ts : Array Nat} {t : Nat} {d x : FV}
    (hop : o.op = .call { callee := .builtin .append, args := args, argTypes := ts }) (hts : ts.toList = [t, t]) (hargs : evAll s args.toList = some [d, x])
    (h : appendK T s.H t d x (fun v H => k (.fv v) H) = some out) : ∃ av H', k av H' = some out ∧ Does P o s av H' := by
  unfold appendK at h
  split at h
  · cases h
  rename_i e he
  split at h
  · cases h
  rename_i q hq
  split at h
  · cases h
  rename_i b vx hx
  split at h
  · cases h
  rename_i ys hys
  have hvx := cast_ok hys
  subst hvx
  have htsA : ts = #[t, t] := by rw [← Array.toArray_toList (xs := ts), hts]
  obtain ⟨i, z, dd, hi, hsz, hz, hze, hby, _⟩ := hT.ek e q hq
  obtain ⟨zv, hz1, hz2⟩ := ElR.cells hze
  have hzs : z.cells.size = q.sz := by rw [hz1, List.size_toArray, ← hz2.length, K.len_f]
  -- one step of the model
  have step : ∀ (w : World) (v : Value) (u : Value) (zs : List q.ty) (xs : List Value), w.ownsRow 0 e q.sz v zs.length xs → AllR SCR (Vec.cells ⟨q, zs⟩) xs →
      ((u = .slice none 0 0 ∧ ys = []) ∨ ∃ a cap, u = .slice (some a) ys.length cap ∧ CellsR w a (Vec.cells ⟨q, ys⟩)) → zs.length + ys.length ≤ 1099511627776 →
      ∃ v' w', (Builtin.append_ #[t, t] o.type #[v, u]).run P w = .ok v' w' ∧ (∃ xs', w'.ownsRow 0 e q.sz v' (zs ++ ys).length xs' ∧ AllR SCR (Vec.cells ⟨q, zs ++ ys⟩) xs') ∧ w.grownBy w' v.ownBlock ∧
        ∀ g, v'.ownBlock = some g → v.ownBlock = some g ∨ w.heap.size ≤ g := by
    intro w v u zs xs hown hxs hu hle
    rcases hu with ⟨rfl, rfl⟩ | ⟨a, cap, rfl, hc⟩
    · refine ⟨v, w, run_append_owned_none (P := P) (w := w) 0 t o.type e i q.sz (hT.sl t e he) hi v zs.length xs hown, ⟨xs, by simpa using hown, by simpa using hxs⟩, ⟨rfl, rfl, rfl, Nat.le_refl _, fun _ _ _ => rfl⟩, fun g hg => .inl hg⟩
    · obtain ⟨news, hn1, hn2, hn3, hn4⟩ := slice_values hc
      have hb : (zs.length + ys.length) * i.bytes ≤ 140737488355328 := by
        calc (zs.length + ys.length) * i.bytes ≤ 1099511627776 * 64 := Nat.mul_le_mul hle hby
          _ ≤ 140737488355328 := by decide
      obtain ⟨v', w', h1, h2, h3, h4⟩ := append_own (P := P) w t o.type e i z q.sz (hT.sl t e he) hi hz hsz hzs q.sz_pos v zs.length xs hown a ys.length cap news hn1 hn3 hn4 (by unfold maxLen; omega) hb
      exact ⟨v', w', h1, ⟨xs ++ news, by rw [List.length_append]; exact h2, by rw [cells_append]; exact hxs.append hn2⟩, h3, h4⟩
  split at h
  · -- onto nothing
    cases hle : decide (ys.length ≤ 1099511627776) with
    | false => rw [hle] at h; cases h
    | true =>
      rw [hle] at h
      replace hle := of_decide_eq_true hle
      refine ⟨_, _, h, ?_⟩
      intro a w Pr ρ cargs hp hH ho
      have hev := evAll_mem hargs (Pr := Pr) (w := w) (ρ := ρ) (cargs := cargs) (a := a) fun y hy v hv => ho.fv y (by rw [hop]; simpa [Op.operands, Call.operands] using hy) v hv
      obtain ⟨vd, u, hv, hd, hu⟩ := hev.two
      have hd' : vd = .slice none 0 0 := hd
      subst hd'
      have hsl := (slice_ok hH hu hx).2
      obtain ⟨v', w', h1, ⟨xs', h2, h3⟩, h4, h5⟩ := step w (.slice none 0 0) u [] [] (World.ownsRow_nil w 0 e q.sz) (by simp [Vec.cells, AllR]) (by
        rcases hsl with h | ⟨a, cap, h1, _, h2, _⟩
        · exact .inl h
        · exact .inr ⟨a, cap, h1, h2⟩) (by simpa using hle)
      simp only [List.nil_append] at h2 h3
      have hnew : ∀ g, v'.ownBlock = some g → w.heap.size ≤ g := fun g hg => by
        rcases h5 g hg with h | h
        · simp [Value.ownBlock] at h
        · exact h
      have hold : ∀ k, k < w.heap.size → w'.heap[k]? = w.heap[k]? := fun k hk => h4.block k hk (by simp [Value.ownBlock])
      refine yields_builtin hop (v := v') (w' := w') (fun consts => ?_) ⟨ρ ++ [v'], old_push _, ?_, hH.push hold ⟨xs', h2, h3, fun g hg hpr => ?_⟩ hnew, ⟨h4.os, h4.tape, h4.output, h4.size, fun k hk => hold k (hp k hk)⟩⟩
      · rw [map_args hv, htsA]
        simp [builtin, h1]
      · show (ρ ++ [v'])[s.H.length]? = some v'
        rw [← hH.len]; simp
      · have := hnew g hg
        have := hp g hpr
        omega
  · -- onto a row of the call's own
    rename_i r
    split at h
    · cases h
    rename_i row hrow
    split at h
    · cases h
    rename_i zs hzs'
    cases hle : (Nat.beq row.e e && decide (zs.length + ys.length ≤ 1099511627776)) with
    | false => rw [hle] at h; cases h
    | true =>
      rw [hle] at h
      rw [Bool.and_eq_true, decide_eq_true_eq] at hle
      have hre : row.e = e := Nat.eq_of_beq_eq_true hle.1
      have hrv := cast_ok hzs'
      refine ⟨_, _, h, ?_⟩
      intro a w Pr ρ cargs hp hH ho
      have hev := evAll_mem hargs (Pr := Pr) (w := w) (ρ := ρ) (cargs := cargs) (a := a) fun y hy v hv => ho.fv y (by rw [hop]; simpa [Op.operands, Call.operands] using hy) v hv
      obtain ⟨vd, u, hv, hd, hu⟩ := hev.two
      have hsl := (slice_ok hH hu hx).2
      have hd' : ρ[r]? = some vd := hd
      obtain ⟨vr, hvr, xs, hown, hxs, hnp⟩ := hH.row r row hrow
      rw [hd'] at hvr
      cases hvr
      rw [hrv, hre] at hown
      rw [hrv] at hxs
      obtain ⟨v', w', h1, ⟨xs', h2, h3⟩, h4, h5⟩ := step w vd u zs xs hown hxs (by
        rcases hsl with h | ⟨a, cap, h1, _, h2, _⟩
        · exact .inl h
        · exact .inr ⟨a, cap, h1, h2⟩) hle.2
      -- the other rows
      have hoth : HR w' Pr ρ (s.H.set r none) := by
        have hd2 := hH.drop r
        refine ⟨hd2.len, fun r' row' hrow' => ?_, hd2.apart⟩
        obtain ⟨v2, hv2, hr2⟩ := hd2.row r' row' hrow'
        refine ⟨v2, hv2, hr2.keep fun g hg => h4.block g (hr2.lt hg) ?_⟩
        intro e2
        rcases rowAt_set hrow' with ⟨hne, hold⟩ | ⟨_, hx⟩
        · exact hH.apart r r' row row' vd v2 g hne hrow hold hd' hv2 e2.symm hg
        · cases hx
      refine yields_builtin hop (v := v') (w' := w') (fun consts => ?_) ⟨ρ ++ [v'], old_push _, ?_, hoth.push' ⟨xs', h2, h3, fun g hg hpr => ?_⟩ ?_, ⟨h4.os, h4.tape, h4.output, h4.size, fun k hk => h4.block k (hp k hk) (fun e2 => hnp k e2.symm hk)⟩⟩
      · rw [map_args hv, htsA]
        simp [builtin, h1]
      · show (ρ ++ [v'])[s.H.length]? = some v'
        rw [← hH.len]; simp
      · rcases h5 g hg with h | h
        · exact hnp g h hpr
        · have := hp g hpr
          omega
      · intro g hg r' row' u' hrow' hu' hg'
        rcases rowAt_set hrow' with ⟨hne, hold⟩ | ⟨_, hx⟩
        · rcases h5 g hg with h | h
          · exact hH.apart r r' row row' vd u' g hne hrow hold hd' hu' h hg'
          · obtain ⟨u2, hu2, hr2⟩ := hH.row r' row' hold
            rw [hu'] at hu2
            cases hu2
            have := hr2.lt hg'
            omega
        · cases hx
  · cases h

/-- A row that is changed in its place. -/
theorem HR.setRow {w w' : World} {Pr : Nat → Prop} {ρ : List Value} {H : Hp} {r : Nat} {row row' : Row} {vr : Value} (hH : HR w Pr ρ H) (hrow : rowAt H r = some row) (hr1 : ρ[r]? = some vr) (hnew : RowR w' Pr vr row'.e row'.v)
    (hoth : ∀ g', vr.ownBlock ≠ some g' → w'.heap[g']? = w.heap[g']?) : HR w' Pr ρ (H.set r (some row')) := by
  refine ⟨by rw [List.length_set]; exact hH.len, fun r' row2 hrow' => ?_, fun r1 r2 row1 row2 v1 v2 g' hne h1 h2 h3 h4 h5 => ?_⟩
  · rcases rowAt_set hrow' with ⟨hne, hold⟩ | ⟨rfl, hnew'⟩
    · obtain ⟨v', hv', hrr⟩ := hH.row r' row2 hold
      refine ⟨v', hv', hrr.keep fun g' hg' => hoth g' ?_⟩
      intro e
      exact hH.apart r r' row row2 vr v' g' hne hrow hold hr1 hv' e hg'
    · cases hnew'
      exact ⟨vr, hr1, hnew⟩
  · have key : ∀ {r' : Nat} {row2 : Row}, rowAt (H.set r (some row')) r' = some row2 → ∃ row'', rowAt H r' = some row'' := by
      intro r' row2 h
      rcases rowAt_set h with ⟨_, h⟩ | ⟨rfl, _⟩
      · exact ⟨_, h⟩
      · exact ⟨_, hrow⟩
    obtain ⟨row1', h1'⟩ := key h1
    obtain ⟨row2', h2'⟩ := key h2
    exact hH.apart r1 r2 row1' row2' v1 v2 g' hne h1' h2' h3 h4 h5

theorem cells_dropped (q : K) : ∀ (zs : List q.ty) (n : Nat), Vec.cells ⟨q, zs.drop n⟩ = (Vec.cells ⟨q, zs⟩).drop (n * q.sz)
  | [], n => by simp [Vec.cells]
  | z :: zs, 0 => by simp
  | z :: zs, n + 1 => by
    have ih := cells_dropped q zs n
    have e : (n + 1) * q.sz = (q.f z).cells.length + n * q.sz := by rw [K.len_f, Nat.add_mul]; omega
    have h : Vec.cells ⟨q, z :: zs⟩ = (q.f z).cells ++ Vec.cells ⟨q, zs⟩ := by simp [Vec.cells]
    have h2 : ((q.f z).cells ++ Vec.cells ⟨q, zs⟩).drop ((q.f z).cells.length + n * q.sz) = (Vec.cells ⟨q, zs⟩).drop (n * q.sz) := by
      rw [List.drop_append, List.drop_of_length_le (Nat.le_add_right _ _), Nat.add_sub_cancel_left, List.nil_append]
    rw [h, e, h2]
    exact ih

theorem does_copy (hT : TOK P T) {o : Oper} {s : St} {k : AV → Hp → R} {out : Out} {args : Array Operand} {ts : Array Nat} {t : Nat} {tl : List Nat} {d x : FV}
    (hop : o.op = .call { callee := .builtin .copy, args := args, argTypes := ts }) (hts : ts.toList = t :: tl) (hargs : evAll s args.toList = some [d, x])
    (h : copyK T s.H t d x (fun v H => k (.fv v) H) = some out) : ∃ av H', k av H' = some out ∧ Does P o s av H' := by
  unfold copyK at h
  split at h
  · cases h
  rename_i e he
  split at h
  · cases h
  rename_i q hq
  split at h
  · cases h
  rename_i b vx hx
  split at h
  · cases h
  rename_i ys hys
  have hvx := cast_ok hys
  subst hvx
  have htsA : ts[0]? = some t := by rw [← Array.getElem?_toList, hts]; rfl
  obtain ⟨i, z, dd, hi, hsz, _⟩ := hT.ek e q hq
  split at h
  · rename_i r
    split at h
    · cases h
    rename_i row hrow
    split at h
    · cases h
    rename_i zs hzs'
    cases hle : decide (ys.length ≤ zs.length) with
    | false => rw [hle] at h; cases h
    | true =>
      rw [hle] at h
      replace hle := of_decide_eq_true hle
      have hrv := cast_ok hzs'
      refine ⟨_, _, h, ?_⟩
      intro a w Pr ρ cargs hp hH ho
      have hev := evAll_mem hargs (Pr := Pr) (w := w) (ρ := ρ) (cargs := cargs) (a := a) fun y hy v hv => ho.fv y (by rw [hop]; simpa [Op.operands, Call.operands] using hy) v hv
      obtain ⟨vd, u, hv, hd, hu⟩ := hev.two
      have hsl := (slice_ok hH hu hx).2
      have hd' : ρ[r]? = some vd := hd
      obtain ⟨vr, hvr, xs, hown, hxs, hnp⟩ := hH.row r row hrow
      rw [hd'] at hvr
      cases hvr
      rw [hrv] at hown hxs
      dsimp only at hown hxs
      have hxl : xs.length = zs.length * q.sz := hown.1
      -- what is copied
      have hsrc : ∃ news : List Value, news.length = ys.length * q.sz ∧ AllR SCR (Vec.cells ⟨q, ys⟩) news ∧ (∀ v ∈ news, v.oneCell' = true) ∧ ∃ au lu cu, u = .slice au lu cu ∧ lu = ys.length ∧ (Builtin.firstCells q.sz ys.length u).run P w = .ok news.toArray w := by
        rcases hsl with ⟨rfl, h2⟩ | ⟨au, cu, rfl, _, hc, _⟩
        · have hy : ys = [] := h2
          subst hy
          exact ⟨[], by simp, by simp [Vec.cells, AllR], by simp, none, 0, 0, rfl, rfl, by simp [Builtin.firstCells]⟩
        · obtain ⟨news, hn1, hn2, hn3, hn4⟩ := slice_values hc
          refine ⟨news, hn1, hn2, hn4, some au, _, cu, rfl, rfl, ?_⟩
          have hl := run_loadCells_list (P := P) w au news hn3
          rw [hn1] at hl
          simpa [Builtin.firstCells] using hl
      obtain ⟨news, hn1, hn2, hn4, au, lu, cu, rfl, rfl, hfirst⟩ := hsrc
      have hmin : Nat.min ys.length zs.length = ys.length := Nat.min_eq_left hle
      have hnl : news.length ≤ xs.length := by rw [hn1, hxl]; exact Nat.mul_le_mul_right _ hle
      have hcells : AllR SCR (Vec.cells ⟨q, ys ++ zs.drop ys.length⟩) (news ++ xs.drop news.length) := by
        rw [cells_append, cells_dropped, hn1]
        exact hn2.append (hxs.drop _)
      have hzl : (ys ++ zs.drop ys.length).length = zs.length := by simp; omega
      rcases hown.2 with ⟨rfl, h0⟩ | ⟨g, cap, cur, rfl, rest⟩
      · -- nothing
        have hy0 : ys = [] := List.eq_nil_of_length_eq_zero (by omega)
        subst hy0
        have hnn : news = [] := List.eq_nil_of_length_eq_zero (by simpa using hn1)
        subst hnn
        refine yields_builtin hop (v := .int .i64 0) (w' := w) (fun consts => ?_) ⟨ρ, fun _ _ h => h, rfl, ?_, Keep.refl _ _⟩
        · have hf0 : (Builtin.firstCells q.sz 0 (.slice au 0 cu)).run P w = .ok #[] w := hfirst
          rw [map_args hv]
          simp [builtin, Builtin.copy_, htsA, run_underlying (hT.sl t e he), Builtin.lenOf, sizeOf, typeInfo, hi, hsz, hf0, goInt]
        · refine hH.setRow hrow hd' ⟨xs, ?_, ?_, hnp⟩ (fun _ _ => rfl)
          · rw [hzl]; exact hown
          · simpa using hcells
      · have hg : (Value.slice (some ⟨g, 0, none⟩) zs.length cap).ownBlock = some g := rfl
        obtain ⟨w', hst, hown', hoth, hos, htape, hout, hsize⟩ := write_row (P := P) hown hg 0 news (by omega) hn4
        refine yields_builtin hop (v := .int .i64 (ys.length : Int)) (w' := w') (fun consts => ?_) ⟨ρ, fun _ _ h => h, rfl, ?_, ⟨hos, htape, hout, by omega, fun j hj => hoth j (fun e => hnp g hg (e ▸ hj))⟩⟩
        · rw [map_args hv]
          simp [builtin, Builtin.copy_, htsA, run_underlying (hT.sl t e he), Builtin.lenOf, sizeOf, typeInfo, hi, hsz, hmin, hfirst, hst, goInt]
        · refine hH.setRow hrow hd' ⟨_, ?_, hcells, hnp⟩ (fun g' hg' => hoth g' fun e => hg' (by rw [e]; rfl))
          rw [hzl]
          simpa using hown'
  · cases h

end
end Go.Sm
