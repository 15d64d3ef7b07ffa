/- The law FnSpectraSharedOfAll holds: whatever the input, it says true, and the input reads as it did. No condition. -/
import Derived.Test.YtdeplgocckdbiaaD13
import Derived.Test.YtdeplgocckdbiaaRows
import Derived.ProofKit
namespace Go.Sm.Ytdeplgocckdbiaa
open Go Go.Sm Go.RowKit Go.ChangeShapes Go.WideShapes Go.ChangeAt Go.Proofs Go.Proofs.Ytdeplgocckdbiaa

theorem e13 (xss : List (List LineV)) (b : Nat) (d : Nat) (n : Int) (w : Int) (v : Int) : runFn T13 none0 noL Try.f13 [.vv none .line xss, .el (.sc (.fl .f32 b)), .el (.sc (.fl .f32 d)), .el (.sc (.int .i64 n)), .el (.sc (.int .i64 w)), .el (.sc (.int .i64 v))] = (match (decide (((xss.length : Int) : Int) > 10000) : Bool) with
  | true => some ⟨[.el (.sc (.bo true))], none⟩
  | false => (match (xss.all (fun l => Nat.ble l.length wide) : Bool) with
    | true => (match (!((sharedOk xss b d n w) == (sharedOk xss b d n w)) : Bool) with
      | true => some ⟨[.el (.sc (.bo false))], none⟩
      | false => (match (sharedOk xss b d n w : Bool) with
        | true => (match (Nat.beq (orNil (sharedOk xss b d n w) (sharedX xss b d n)).length (orNil (sharedOk xss b d n w) (sharedX xss b d n)).length : Bool) with
          | true => (match (Nat.ble (orNil (sharedOk xss b d n w) (sharedX xss b d n)).length big : Bool) with
            | true => (match (!(all2 same32 (orNil (sharedOk xss b d n w) (sharedX xss b d n)) (orNil (sharedOk xss b d n w) (sharedX xss b d n))) : Bool) with
              | true => some ⟨[.el (.sc (.bo false))], none⟩
              | false => (match (decide ((w : Int) < 1) : Bool) with
                | true => some ⟨[.el (.sc (.bo true))], none⟩
                | false => (match (decide ((w : Int) > 8) : Bool) with
                  | true => some ⟨[.el (.sc (.bo true))], none⟩
                  | false => (match (decide ((v : Int) < 1) : Bool) with
                    | true => some ⟨[.el (.sc (.bo true))], none⟩
                    | false => (match (decide ((v : Int) > 8) : Bool) with
                      | true => some ⟨[.el (.sc (.bo true))], none⟩
                      | false => (match ((sharedOk xss b d n w) == (sharedOk xss b d n v) : Bool) with
                        | true => (match (!(sharedOk xss b d n w) : Bool) with
                          | true => some ⟨[.el (.sc (.bo true))], none⟩
                          | false => (match (Nat.beq (orNil (sharedOk xss b d n w) (sharedX xss b d n)).length (orNil (sharedOk xss b d n v) (sharedX xss b d n)).length : Bool) with
                            | true => (match (Nat.ble (orNil (sharedOk xss b d n w) (sharedX xss b d n)).length big : Bool) with
                              | true => some ⟨[.el (.sc (.bo (all2 same32 (orNil (sharedOk xss b d n w) (sharedX xss b d n)) (orNil (sharedOk xss b d n v) (sharedX xss b d n)))))], none⟩
                              | false => none)
                            | false => some ⟨[.el (.sc (.bo false))], none⟩))
                        | false => some ⟨[.el (.sc (.bo false))], none⟩))))))
            | false => none)
          | false => some ⟨[.el (.sc (.bo false))], none⟩)
        | false => (match (decide ((w : Int) < 1) : Bool) with
          | true => some ⟨[.el (.sc (.bo true))], none⟩
          | false => (match (decide ((w : Int) > 8) : Bool) with
            | true => some ⟨[.el (.sc (.bo true))], none⟩
            | false => (match (decide ((v : Int) < 1) : Bool) with
              | true => some ⟨[.el (.sc (.bo true))], none⟩
              | false => (match (decide ((v : Int) > 8) : Bool) with
                | true => some ⟨[.el (.sc (.bo true))], none⟩
                | false => (match ((sharedOk xss b d n w) == (sharedOk xss b d n v) : Bool) with
                  | true => (match (!(sharedOk xss b d n w) : Bool) with
                    | true => some ⟨[.el (.sc (.bo true))], none⟩
                    | false => (match (Nat.beq (orNil (sharedOk xss b d n w) (sharedX xss b d n)).length (orNil (sharedOk xss b d n v) (sharedX xss b d n)).length : Bool) with
                      | true => (match (Nat.ble (orNil (sharedOk xss b d n w) (sharedX xss b d n)).length big : Bool) with
                        | true => some ⟨[.el (.sc (.bo (all2 same32 (orNil (sharedOk xss b d n w) (sharedX xss b d n)) (orNil (sharedOk xss b d n v) (sharedX xss b d n)))))], none⟩
                        | false => none)
                      | false => some ⟨[.el (.sc (.bo false))], none⟩))
                  | false => some ⟨[.el (.sc (.bo false))], none⟩)))))))
    | false => none)) := by kernel_rfl
theorem s13 (xss : List (List LineV)) (b : Nat) (d : Nat) (n : Int) (w : Int) (v : Int) (h_xss : ∀ l ∈ xss, ∀ a ∈ l, K.wf .line a) (g_xss : ∀ l ∈ xss, l.length ≤ 140737488351232) (h_b : cn .f32 b = b ∧ b < 2 ^ 32) (h_d : cn .f32 d = d ∧ d < 2 ^ 32) (h_n : -9223372036854775808 ≤ n ∧ n ≤ 9223372036854775807) (h_w : -9223372036854775808 ≤ w ∧ w ≤ 9223372036854775807) (h_v : -9223372036854775808 ≤ v ∧ v ≤ 9223372036854775807) : runFn T13 none0 noL Try.f13 [.vv none .line xss, .el (.sc (.fl .f32 b)), .el (.sc (.fl .f32 d)), .el (.sc (.int .i64 n)), .el (.sc (.int .i64 w)), .el (.sc (.int .i64 v))] = some ⟨[.el (.sc (.bo true))], none⟩ := by
  rw [e13]
  have hall : xss.all (fun l => Nat.ble l.length wide) = true := List.all_eq_true.2 (fun l hl => wide_of (g_xss l hl))
  by_cases hs : (xss.length : Int) > 10000
  · simp [hs]
  · have hx : Nat.ble xss.length big = true := big_of (by omega)
    have hl : ∀ w, (orNil (sharedOk xss b d n w) (sharedX xss b d n)).length ≤ 10000 := fun w => orNil_len _ _ (fun _ => by rw [sharedX_len]; omega)
    have hb : ∀ w, Nat.ble (orNil (sharedOk xss b d n w) (sharedX xss b d n)).length big = true := fun w => big_of (by have := hl w; omega)
    have hn : ¬ ((xss.length : Int) > 10000) := hs
    simp only [hn, hall, hb, decide_false, Nat.beq_refl, all2_refl same32_refl]
    have key : ¬ (w < 1) → ¬ (w > 8) → ¬ (v < 1) → ¬ (v > 8) → sharedOk xss b d n v = sharedOk xss b d n w := by
      intro a1 a2 a3 a4
      have e1 : within v 1 8 = true := by unfold within; rw [decide_eq_true (show v ≥ 1 by omega), decide_eq_true (show v ≤ 8 by omega)]; rfl
      have e2 : within w 1 8 = true := by unfold within; rw [decide_eq_true (show w ≥ 1 by omega), decide_eq_true (show w ≤ 8 by omega)]; rfl
      unfold sharedOk
      rw [e1, e2]
    by_cases w1 : w < 1
    · cases sharedOk xss b d n w <;> simp [w1]
    · by_cases w8 : w > 8
      · cases sharedOk xss b d n w <;> simp [w1, w8]
      · by_cases v1 : v < 1
        · cases sharedOk xss b d n w <;> simp [w1, w8, v1]
        · by_cases v8 : v > 8
          · cases sharedOk xss b d n w <;> simp [w1, w8, v1, v8]
          · have hb2 := hb w
            rw [key w1 w8 v1 v8]
            cases sharedOk xss b d n w <;> simp [w1, w8, v1, v8, all2_refl same32_refl, Nat.beq_refl]

theorem core13 (xs : List FV) (h : AKs (AK.fits Try.prog) [.sll .line, .sc (.float .f32), .sc (.float .f32), .sc (.int .i64), .sc (.int .i64), .sc (.int .i64)] Try.f13.params.toList xs) : COK Try.prog 13 xs [.el (.sc (.bo true))] := by
  have hp : Try.f13.params.toList = [59, 30, 30, 2, 2, 2] := by kernel_rfl
  rw [hp] at h
  obtain ⟨x0, x1, x2, x3, x4, x5, rfl, hx0, hx1, hx2, hx3, hx4, hx5⟩ := aks6 h
  obtain ⟨xss, rfl, h_xss, i0⟩ := hx0
  have g_xss : ∀ l ∈ xss, l.length ≤ 140737488351232 := fun l hl => Nat.le_trans (Nat.le_mul_of_pos_right _ (show 0 < Try.prog.bytesOf 67 by exact of_decide_eq_true (by kernel_rfl))) (i0 33 67 (by kernel_rfl) (by kernel_rfl) l hl)
  obtain ⟨s1, rfl, h1⟩ := hx1
  obtain ⟨b, rfl, h_b⟩ := fits_f32 h1
  obtain ⟨s2, rfl, h2⟩ := hx2
  obtain ⟨d, rfl, h_d⟩ := fits_f32 h2
  obtain ⟨s3, rfl, h3⟩ := hx3
  obtain ⟨n, rfl, h_n⟩ := fits_i64 h3
  obtain ⟨s4, rfl, h4⟩ := hx4
  obtain ⟨w, rfl, h_w⟩ := fits_i64 h4
  obtain ⟨s5, rfl, h5⟩ := hx5
  obtain ⟨v, rfl, h_v⟩ := fits_i64 h5
  show COK Try.prog 13 [.vv none .line xss, .el (.sc (.fl .f32 b)), .el (.sc (.fl .f32 d)), .el (.sc (.int .i64 n)), .el (.sc (.int .i64 w)), .el (.sc (.int .i64 v))] [.el (.sc (.bo true))]
  exact fn_ok tok13 (A := none0) (L := noL) (r := none) Try.func13 (by kernel_rfl) (by kernel_rfl) (loops0 (by kernel_rfl)) (s13 xss b d n w v h_xss g_xss h_b h_d h_n h_w h_v)

end Go.Sm.Ytdeplgocckdbiaa
namespace Go.Proofs.Ytdeplgocckdbiaa
open Go.Sm Go.Sm.Ytdeplgocckdbiaa Go.ChangeShapes Go.WideShapes Go.ChangeAt Go.RowKit

set_option maxRecDepth 100000 in
theorem lifted13 (os : Os) (started : os.Started) (H : Type) (enc : TypeId × Value → H) :
    ReturnsInHanded {} Try.checked os 13 .any (Rows.fnSpectraSharedOfAllSpec.pre6 enc Try.prog Try.f13 Rows.fnSpectraSharedOfAllRow.domain false) (Rows.fnSpectraSharedOfAllSpec.post enc Try.prog Try.f13 false true false false) :=
  law_lifted (C := Try.checked) (aks := [.sll .line, .sc (.float .f32), .sc (.float .f32), .sc (.int .i64), .sc (.int .i64), .sc (.int .i64)]) (tb := 4) (by kernel_rfl) started (by kernel_rfl) Try.func13 (by kernel_rfl)
    (ChangeSpec.witness6 (enc := enc) (C := Try.checked) false ⟨#[], #[.slice none 0 0, .float .f32 0, .float .f32 0, .int .i64 0, .int .i64 0, .int .i64 0], []⟩ 8 (by kernel_rfl) (by kernel_rfl) (by kernel_rfl) (by kernel_rfl))
    (fun t ht => by
      have hb : Try.f13.params.toList.all (fun t => Try.prog.readableRec t && decide (t < Try.prog.types.size)) = true := by kernel_rfl
      have := List.all_eq_true.1 hb t ht
      rw [Bool.and_eq_true] at this
      exact ⟨this.1, of_decide_eq_true this.2⟩)
    (by kernel_rfl) (by kernel_rfl) rfl
    (fun ds hd => by
      have hp : Try.f13.params.size = 6 := by kernel_rfl
      rw [hp] at hd
      match ds, hd with
      | [d0, d1, d2, d3, d4, d5], _ => rfl)
    (rowsB_ok (by kernel_rfl)) core13

/-- **THE LAW.** -/
theorem FnSpectraSharedOfAll_holds : Rows.FnSpectraSharedOfAllSaid :=
  OpenClaim.holds_of_wide 13 Try.f13 rfl rfl rfl rfl rfl rfl rfl ⟨rfl, rfl, rfl, rfl, rfl⟩ rfl rfl rfl rfl rfl (by kernel_rfl) Try.func13 (by kernel_rfl)
    (of_decide_eq_true (by kernel_rfl)) (by unfold Func.isWrapper; first | (rw [if_pos (by decide +kernel)]; kernel_rfl) | (rw [if_neg (by decide +kernel)]; exact ⟨rfl, rfl⟩))
    (fun os started H enc _ => lifted13 os started H enc)

end Go.Proofs.Ytdeplgocckdbiaa
