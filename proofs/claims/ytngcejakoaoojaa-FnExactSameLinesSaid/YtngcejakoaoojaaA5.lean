/- Conversions, the greater and the lesser of two: what the machine says, the model does. -/
import Derived.Test.YtngcejakoaoojaaA4
namespace Go.Sm
open Go Go.RowKit

section
variable {P : Program} {w : World} {src dst : Nat} {sd : TypeDesc}

theorem convert_int_int {q q' : IntKind} {n : Int} (hs : P.underlying src = some sd) (hd : P.underlying dst = some (.int q)) : (convert src dst (.int q' n)).run P w = .ok (.int q (q.wrap n)) w := by
  cases sd <;> simp [convert, run_underlying hs, run_underlying hd, Conv.intToInt]
theorem convert_int_float {q : FloatKind} {q' : IntKind} {n : Int} (hs : P.underlying src = some sd) (hd : P.underlying dst = some (.float q)) : (convert src dst (.int q' n)).run P w = .ok (.float q (fint q n)) w := by
  cases sd <;> simp [convert, run_underlying hs, run_underlying hd, Conv.intToFloat, fint]
theorem convert_float_float {q s : FloatKind} {b : Nat} (hs : P.underlying src = some sd) (hd : P.underlying dst = some (.float q)) : (convert src dst (.float s b)).run P w = (Conv.floatToFloat s b q).run P w := by
  cases sd <;> simp [convert, run_underlying hs, run_underlying hd]
theorem convert_float_int {q : IntKind} {s : FloatKind} {b : Nat} (hs : P.underlying src = some sd) (hd : P.underlying dst = some (.int q)) : (convert src dst (.float s b)).run P w = (Conv.floatToInt s b q).run P w := by
  cases sd <;> simp [convert, run_underlying hs, run_underlying hd]
theorem convert_cx {q s : FloatKind} {a b : Nat} (hs : P.underlying src = some sd) (hd : P.underlying dst = some (.complex q)) : (convert src dst (.complex s a b)).run P w = (Conv.complexToComplex s a b q).run P w := by
  cases sd <;> simp [convert, run_underlying hs, run_underlying hd]
end

theorem same_kind {P : Program} {w : World} {k : FloatKind} {b : Nat} : (Conv.floatToFloat k b k).run P w = .ok (.float k b) w := by simp [Conv.floatToFloat]

theorem Gives.float {P : Program} {w : World} {x : Sem Value} {k : FloatKind} {c : Nat} (h : Gives P w x (SCR (.fl k c))) : ∃ r w', x.run P w = .ok (.float k r) w' ∧ cn k r = c ∧ Same w w' := by
  obtain ⟨_, w', h1, ⟨b, rfl, h2⟩, h3⟩ := h
  exact ⟨b, w', h1, h2, h3⟩

theorem gives_cconv {P : Program} {w : World} {s d : FloatKind} {a b x y : Nat} (h1 : ∀ w, Gives P w (Conv.floatToFloat s a d) (SCR (.fl d x))) (h2 : ∀ w, Gives P w (Conv.floatToFloat s b d) (SCR (.fl d y))) :
    Gives P w (Conv.complexToComplex s a b d) (SCR (.cx d x y)) := by
  obtain ⟨r, w1, e1, c1, s1⟩ := (h1 w).float
  obtain ⟨r', w2, e2, c2, s2⟩ := (h2 w1).float
  exact ⟨.complex d r r', w2, by simp [Conv.complexToComplex, e1, e2], ⟨r, r', rfl, c1, c2⟩, s1.trans s2⟩

theorem Gives.of_eq {P : Program} {w : World} {x y : Sem Value} {Φ : Value → Prop} (h : Gives P w y Φ) (e : x.run P w = y.run P w) : Gives P w x Φ := by
  obtain ⟨r, w', h1, h2, h3⟩ := h
  exact ⟨r, w', e.trans h1, h2, h3⟩

theorem convK_ok {n : NK} {x : SC} {k : SC → R} {out : Out} (h : convK n x k = some out) :
    ∃ c, k c = some out ∧ ∀ (P : Program) (w : World) (src dst : Nat) (sd : TypeDesc) (u : Value), P.underlying src = some sd → P.underlying dst = some n.desc → SCR x u → Gives P w (convert src dst u) (SCR c) := by
  unfold convK at h
  split at h
  · refine ⟨_, h, ?_⟩
    rintro P w src dst sd u hs hd rfl
    exact ⟨_, w, convert_int_int hs hd, rfl, Same.refl w⟩
  · refine ⟨_, h, ?_⟩
    rintro P w src dst sd u hs hd rfl
    exact ⟨_, w, convert_int_float hs hd, ⟨_, rfl, cn_fint _ _⟩, Same.refl w⟩
  · refine ⟨_, h, ?_⟩
    rintro P w src dst sd u hs hd ⟨b, rfl, rfl⟩
    exact ⟨_, w, (convert_float_float hs hd).trans same_kind, ⟨_, rfl, rfl⟩, Same.refl w⟩
  · refine ⟨_, h, ?_⟩
    rintro P w src dst sd u hs hd ⟨b, rfl, rfl⟩
    exact ⟨_, w, (convert_float_float hs hd).trans same_kind, ⟨_, rfl, rfl⟩, Same.refl w⟩
  · refine ⟨_, h, ?_⟩
    rintro P w src dst sd u hs hd ⟨b, rfl, rfl⟩
    exact gives_wid.of_eq (convert_float_float hs hd)
  · split at h
    · rename_i r hr
      refine ⟨_, h, ?_⟩
      rintro P w src dst sd u hs hd ⟨b, rfl, rfl⟩
      exact (gives_nar hr).of_eq (convert_float_float hs hd)
    · cases h
  · rename_i q s c
    split at h
    · rename_i m hm
      refine ⟨_, h, ?_⟩
      rintro P w src dst sd u hs hd ⟨b, rfl, rfl⟩
      rw [fti_cn] at hm
      exact ⟨_, w, run_convert_float_int w src dst _ _ b m (by rw [hs]; rfl) hd hm, rfl, Same.refl w⟩
    · cases h
  · refine ⟨_, h, ?_⟩
    rintro P w src dst sd u hs hd ⟨a, b, rfl, rfl, rfl⟩
    refine (gives_cconv (x := cn .f32 a) (y := cn .f32 b) (fun w => ⟨_, w, same_kind, ⟨_, rfl, rfl⟩, Same.refl w⟩) (fun w => ⟨_, w, same_kind, ⟨_, rfl, rfl⟩, Same.refl w⟩)).of_eq (convert_cx hs hd)
  · refine ⟨_, h, ?_⟩
    rintro P w src dst sd u hs hd ⟨a, b, rfl, rfl, rfl⟩
    refine (gives_cconv (x := cn .f64 a) (y := cn .f64 b) (fun w => ⟨_, w, same_kind, ⟨_, rfl, rfl⟩, Same.refl w⟩) (fun w => ⟨_, w, same_kind, ⟨_, rfl, rfl⟩, Same.refl w⟩)).of_eq (convert_cx hs hd)
  · refine ⟨_, h, ?_⟩
    rintro P w src dst sd u hs hd ⟨a, b, rfl, rfl, rfl⟩
    exact (gives_cconv (fun _ => gives_wid) (fun _ => gives_wid)).of_eq (convert_cx hs hd)
  · split at h
    · rename_i r hr
      split at h
      · rename_i t ht
        refine ⟨_, h, ?_⟩
        rintro P w src dst sd u hs hd ⟨a, b, rfl, rfl, rfl⟩
        exact (gives_cconv (fun _ => gives_nar hr) (fun _ => gives_nar ht)).of_eq (convert_cx hs hd)
      · cases h
    · cases h
  · cases h

theorem neg_cn_of_num {k : FloatKind} {b : Nat} (h : isN k b = false) : (k.decode (cn k b)).neg = (k.decode b).neg := by rw [cn_num h]

theorem order_some_num {k : FloatKind} {x y : Nat} {o : Ordering} (h : k.format.order x y = some o) : isN k x = false ∧ isN k y = false := by
  unfold Ieee.Format.order at h
  constructor
  · cases hx : isN k x with
    | false => rfl
    | true => rw [order_nan_left (show (k.format.read x).isNaN = true from hx)] at h; cases h
  · cases hy : isN k y with
    | false => rfl
    | true => rw [order_nan_right (show (k.format.read y).isNaN = true from hy)] at h; cases h

theorem gives_max {P : Program} {w : World} {k : FloatKind} {x y : Nat} : Gives P w (Builtin.max2 (.float k x) (.float k y)) (SCR (.fl k (fmax k (cn k x) (cn k y)))) := by
  unfold fmax
  rw [order_cn]
  cases ho : k.format.order x y with
  | none => exact ⟨_, w.drew, by simp [Builtin.max2, ho, Question.forced]; rfl, ⟨_, rfl, cn_nan (isN_chosen k _ _ (.inr (.inr ⟨true, x, y, rfl⟩)))⟩, Same.drew w⟩
  | some o =>
    obtain ⟨hx, hy⟩ := order_some_num ho
    rw [cn_num hx, cn_num hy]
    cases o with
    | lt => exact ⟨_, w, by simp [Builtin.max2, ho], ⟨_, rfl, cn_num hy⟩, Same.refl w⟩
    | gt => exact ⟨_, w, by simp [Builtin.max2, ho], ⟨_, rfl, cn_num hx⟩, Same.refl w⟩
    | eq =>
      cases hn : (k.decode x).neg with
      | true => exact ⟨_, w, by simp [Builtin.max2, ho, hn], ⟨_, rfl, cn_num hy⟩, Same.refl w⟩
      | false => exact ⟨_, w, by simp [Builtin.max2, ho, hn], ⟨_, rfl, cn_num hx⟩, Same.refl w⟩

theorem gives_min {P : Program} {w : World} {k : FloatKind} {x y : Nat} : Gives P w (Builtin.min2 (.float k x) (.float k y)) (SCR (.fl k (fmin k (cn k x) (cn k y)))) := by
  unfold fmin
  rw [order_cn]
  cases ho : k.format.order x y with
  | none => exact ⟨_, w.drew, by simp [Builtin.min2, ho, Question.forced]; rfl, ⟨_, rfl, cn_nan (isN_chosen k _ _ (.inr (.inr ⟨false, x, y, rfl⟩)))⟩, Same.drew w⟩
  | some o =>
    obtain ⟨hx, hy⟩ := order_some_num ho
    rw [cn_num hx, cn_num hy]
    cases o with
    | lt => exact ⟨_, w, by simp [Builtin.min2, ho], ⟨_, rfl, cn_num hx⟩, Same.refl w⟩
    | gt => exact ⟨_, w, by simp [Builtin.min2, ho], ⟨_, rfl, cn_num hy⟩, Same.refl w⟩
    | eq =>
      cases hn : (k.decode x).neg with
      | true => exact ⟨_, w, by simp [Builtin.min2, ho, hn], ⟨_, rfl, cn_num hx⟩, Same.refl w⟩
      | false => exact ⟨_, w, by simp [Builtin.min2, ho, hn], ⟨_, rfl, cn_num hy⟩, Same.refl w⟩

theorem mxK_ok {mx : Bool} {x y : SC} {k : SC → R} {out : Out} (h : mxK mx x y k = some out) :
    ∃ c, k c = some out ∧ ∀ (P : Program) (w : World) (u v : Value), SCR x u → SCR y v → Gives P w (bif mx then Builtin.max2 u v else Builtin.min2 u v) (SCR c) := by
  unfold mxK at h
  split at h
  · rename_i q a q' b
    cases hq : decide (q = q') with
    | false => rw [hq] at h; cases h
    | true =>
      rw [hq] at h
      replace hq := of_decide_eq_true hq
      subst hq
      cases mx
      · refine ⟨_, h, ?_⟩
        rintro P w u v rfl rfl
        exact ⟨_, w, rfl, rfl, Same.refl w⟩
      · refine ⟨_, h, ?_⟩
        rintro P w u v rfl rfl
        exact ⟨_, w, rfl, rfl, Same.refl w⟩
  · rename_i q a q' b
    cases hq : decide (q = q') with
    | false => rw [hq] at h; cases h
    | true =>
      rw [hq] at h
      replace hq := of_decide_eq_true hq
      subst hq
      cases mx
      · refine ⟨_, h, ?_⟩
        rintro P w u v ⟨b1, rfl, rfl⟩ ⟨b2, rfl, rfl⟩
        exact gives_min
      · refine ⟨_, h, ?_⟩
        rintro P w u v ⟨b1, rfl, rfl⟩ ⟨b2, rfl, rfl⟩
        exact gives_max
  · cases h

end Go.Sm
