/- The law FnExactSameLines holds: whatever the input, it says true, and the input reads as it did. No condition. -/
import Derived.Test.YtngcejakoaoojaaD6
import Derived.Test.YtngcejakoaoojaaRows
import Derived.ProofKit
namespace Go.Sm.Ytngcejakoaoojaa
open Go Go.Sm Go.RowKit Go.ChangeShapes Go.WideShapes Go.ChangeAt Go.Proofs Go.Proofs.Ytngcejakoaoojaa

theorem e3 (xs : List LineV) (ys : List LineV) : runFn T6 none0 noL Try.f3 [.vw none ⟨.line, xs⟩, .vw none ⟨.line, ys⟩] = (match (decide ((szLeft xs.length 1048576 : Int) < 0) : Bool) with
  | true => some ⟨[.el (.sc (.bo true))], none⟩
  | false => (match (decide ((szLeft ys.length (szLeft xs.length 1048576) : Int) < 0) : Bool) with
    | true => some ⟨[.el (.sc (.bo true))], none⟩
    | false => (match (Nat.ble xs.length big : Bool) with
      | true => (match (Nat.ble ys.length big : Bool) with
        | true => (match (xs.all wordsL && ys.all wordsL : Bool) with
          | true => (match (Nat.beq xs.length ys.length : Bool) with
            | true => (match (Nat.ble xs.length big : Bool) with
              | true => (match (Nat.ble xs.length big : Bool) with
                | true => (match (Nat.ble ys.length big : Bool) with
                  | true => (match (Nat.beq xs.length ys.length : Bool) with
                    | true => (match (Nat.ble xs.length big : Bool) with
                      | true => (match (!((all2 sameLn xs ys) == (all2 sameLn xs ys)) : Bool) with
                        | true => some ⟨[.el (.sc (.bo false))], none⟩
                        | false => (match (Nat.ble xs.length big : Bool) with
                          | true => (match (Nat.beq xs.length xs.length : Bool) with
                            | true => (match (Nat.ble xs.length big : Bool) with
                              | true => (match (!(all2 eqLineF xs xs) : Bool) with
                                | true => some ⟨[.el (.sc (.bo false))], none⟩
                                | false => (match (Nat.ble ys.length big : Bool) with
                                  | true => (match (Nat.beq ys.length ys.length : Bool) with
                                    | true => (match (Nat.ble ys.length big : Bool) with
                                      | true => (match (!(all2 eqLineF ys ys) : Bool) with
                                        | true => some ⟨[.el (.sc (.bo false))], none⟩
                                        | false => some ⟨[.el (.sc (.bo true))], none⟩)
                                      | false => none)
                                    | false => some ⟨[.el (.sc (.bo false))], none⟩)
                                  | false => none))
                              | false => none)
                            | false => some ⟨[.el (.sc (.bo false))], none⟩)
                          | false => none))
                      | false => none)
                    | false => (match (!(false == (all2 sameLn xs ys)) : Bool) with
                      | true => some ⟨[.el (.sc (.bo false))], none⟩
                      | false => (match (Nat.ble xs.length big : Bool) with
                        | true => (match (Nat.beq xs.length xs.length : Bool) with
                          | true => (match (Nat.ble xs.length big : Bool) with
                            | true => (match (!(all2 eqLineF xs xs) : Bool) with
                              | true => some ⟨[.el (.sc (.bo false))], none⟩
                              | false => (match (Nat.ble ys.length big : Bool) with
                                | true => (match (Nat.beq ys.length ys.length : Bool) with
                                  | true => (match (Nat.ble ys.length big : Bool) with
                                    | true => (match (!(all2 eqLineF ys ys) : Bool) with
                                      | true => some ⟨[.el (.sc (.bo false))], none⟩
                                      | false => some ⟨[.el (.sc (.bo true))], none⟩)
                                    | false => none)
                                  | false => some ⟨[.el (.sc (.bo false))], none⟩)
                                | false => none))
                            | false => none)
                          | false => some ⟨[.el (.sc (.bo false))], none⟩)
                        | false => none)))
                  | false => none)
                | false => none)
              | false => none)
            | false => (match (Nat.ble xs.length big : Bool) with
              | true => (match (Nat.ble ys.length big : Bool) with
                | true => (match (Nat.beq xs.length ys.length : Bool) with
                  | true => (match (Nat.ble xs.length big : Bool) with
                    | true => (match (!((all2 sameLn xs ys) == false) : Bool) with
                      | true => some ⟨[.el (.sc (.bo false))], none⟩
                      | false => (match (Nat.ble xs.length big : Bool) with
                        | true => (match (Nat.beq xs.length xs.length : Bool) with
                          | true => (match (Nat.ble xs.length big : Bool) with
                            | true => (match (!(all2 eqLineF xs xs) : Bool) with
                              | true => some ⟨[.el (.sc (.bo false))], none⟩
                              | false => (match (Nat.ble ys.length big : Bool) with
                                | true => (match (Nat.beq ys.length ys.length : Bool) with
                                  | true => (match (Nat.ble ys.length big : Bool) with
                                    | true => (match (!(all2 eqLineF ys ys) : Bool) with
                                      | true => some ⟨[.el (.sc (.bo false))], none⟩
                                      | false => some ⟨[.el (.sc (.bo true))], none⟩)
                                    | false => none)
                                  | false => some ⟨[.el (.sc (.bo false))], none⟩)
                                | false => none))
                            | false => none)
                          | false => some ⟨[.el (.sc (.bo false))], none⟩)
                        | false => none))
                    | false => none)
                  | false => (match (!(false == false) : Bool) with
                    | true => some ⟨[.el (.sc (.bo false))], none⟩
                    | false => (match (Nat.ble xs.length big : Bool) with
                      | true => (match (Nat.beq xs.length xs.length : Bool) with
                        | true => (match (Nat.ble xs.length big : Bool) with
                          | true => (match (!(all2 eqLineF xs xs) : Bool) with
                            | true => some ⟨[.el (.sc (.bo false))], none⟩
                            | false => (match (Nat.ble ys.length big : Bool) with
                              | true => (match (Nat.beq ys.length ys.length : Bool) with
                                | true => (match (Nat.ble ys.length big : Bool) with
                                  | true => (match (!(all2 eqLineF ys ys) : Bool) with
                                    | true => some ⟨[.el (.sc (.bo false))], none⟩
                                    | false => some ⟨[.el (.sc (.bo true))], none⟩)
                                  | false => none)
                                | false => some ⟨[.el (.sc (.bo false))], none⟩)
                              | false => none))
                          | false => none)
                        | false => some ⟨[.el (.sc (.bo false))], none⟩)
                      | false => none)))
                | false => none)
              | false => none))
          | false => none)
        | false => none)
      | false => none))) := by kernel_rfl
theorem s3 (xs : List LineV) (ys : List LineV) (h_xs : ∀ a ∈ xs, K.wf .line a) (g_xs : xs.length ≤ 140737488351232) (h_ys : ∀ a ∈ ys, K.wf .line a) (g_ys : ys.length ≤ 140737488351232) : runFn T6 none0 noL Try.f3 [.vw none ⟨.line, xs⟩, .vw none ⟨.line, ys⟩] = some ⟨[.el (.sc (.bo true))], none⟩ := by
  rw [e3]
  have wx := wordsL_all h_xs
  have wy := wordsL_all h_ys
  have sz : ∀ (n : Nat) (l : Int), n ≤ 140737488351232 → 0 ≤ l → l ≤ 1048576 → szLeft n l = if l - (n : Int) < 0 then -1 else l - (n : Int) := by
    intro n l hn h0 h1
    unfold szLeft
    have : IntKind.i64.wrap (l - (n : Int)) = l - (n : Int) := wrap64 (by omega) (by omega)
    rw [this]
    by_cases h2 : l - (n : Int) < 0 <;> simp [h2]
  rw [sz xs.length 1048576 g_xs (by omega) (by omega)]
  by_cases h1 : (1048576 : Int) - (xs.length : Int) < 0
  · simp [h1]
  · have n1 : ¬ ((1048576 : Int) - (xs.length : Int) < 0) := h1
    rw [if_neg h1, decide_eq_false n1]
    dsimp only
    rw [sz ys.length _ g_ys (by omega) (by omega)]
    by_cases h2 : (1048576 : Int) - (xs.length : Int) - (ys.length : Int) < 0
    · simp [h2]
    · have n2 : ¬ ((1048576 : Int) - (xs.length : Int) - (ys.length : Int) < 0) := h2
      rw [if_neg h2, decide_eq_false n2]
      have hx : Nat.ble xs.length big = true := big_of (by omega)
      have hy : Nat.ble ys.length big = true := big_of (by omega)
      simp only [wx, wy, hx, hy, Nat.beq_refl, all2_refl eqLineF_refl, Bool.and_self, Bool.not_true]
      cases Nat.beq xs.length ys.length <;> simp

theorem core3 (xs : List FV) (h : AKs (AK.fits Try.prog) [.sl .line, .sl .line] Try.f3.params.toList xs) : COK Try.prog 3 xs [.el (.sc (.bo true))] := by
  have hp : Try.f3.params.toList = [22, 22] := by kernel_rfl
  rw [hp] at h
  obtain ⟨x0, x1, rfl, hx0, hx1⟩ := aks2 h
  obtain ⟨xs, rfl, h_xs, i0⟩ := hx0
  have g_xs : xs.length ≤ 140737488351232 := Nat.le_trans (Nat.le_mul_of_pos_right _ (show 0 < Try.prog.bytesOf 57 by exact of_decide_eq_true (by kernel_rfl))) (i0 57 (by kernel_rfl))
  obtain ⟨ys, rfl, h_ys, i1⟩ := hx1
  have g_ys : ys.length ≤ 140737488351232 := Nat.le_trans (Nat.le_mul_of_pos_right _ (show 0 < Try.prog.bytesOf 57 by exact of_decide_eq_true (by kernel_rfl))) (i1 57 (by kernel_rfl))
  show COK Try.prog 3 [.vw none ⟨.line, xs⟩, .vw none ⟨.line, ys⟩] [.el (.sc (.bo true))]
  exact fn_ok tok6 (A := none0) (L := noL) (r := none) Try.func3 (by kernel_rfl) (by kernel_rfl) (loops0 (by kernel_rfl)) (s3 xs ys h_xs g_xs h_ys g_ys)

end Go.Sm.Ytngcejakoaoojaa
namespace Go.Proofs.Ytngcejakoaoojaa
open Go.Sm Go.Sm.Ytngcejakoaoojaa Go.ChangeShapes Go.WideShapes Go.ChangeAt Go.RowKit

set_option maxRecDepth 100000 in
theorem lifted3 (os : Os) (started : os.Started) (H : Type) (enc : TypeId × Value → H) :
    ReturnsInHanded {} Try.checked os 3 .any (Rows.fnExactSameLinesSpec.pre6 enc Try.prog Try.f3 Rows.fnExactSameLinesRow.domain false) (Rows.fnExactSameLinesSpec.post enc Try.prog Try.f3 false true false false) :=
  law_lifted (C := Try.checked) (aks := [.sl .line, .sl .line]) (tb := 4) (by kernel_rfl) started (by kernel_rfl) Try.func3 (by kernel_rfl)
    (ChangeSpec.witness6 (enc := enc) (C := Try.checked) false ⟨#[], #[.slice none 0 0, .slice none 0 0], []⟩ 8 (by kernel_rfl) (by kernel_rfl) (by kernel_rfl) (by kernel_rfl))
    (fun t ht => by
      have hb : Try.f3.params.toList.all (fun t => Try.prog.readableRec t && decide (t < Try.prog.types.size)) = true := by kernel_rfl
      have := List.all_eq_true.1 hb t ht
      rw [Bool.and_eq_true] at this
      exact ⟨this.1, of_decide_eq_true this.2⟩)
    (by kernel_rfl) (by kernel_rfl) rfl
    (fun ds hd => by
      have hp : Try.f3.params.size = 2 := by kernel_rfl
      rw [hp] at hd
      match ds, hd with
      | [d0, d1], _ => rfl)
    (rowsB_ok (by kernel_rfl)) core3

/-- **THE LAW.** -/
theorem FnExactSameLines_holds : Rows.FnExactSameLinesSaid :=
  OpenClaim.holds_of_wide 3 Try.f3 rfl rfl rfl rfl rfl rfl rfl ⟨rfl, rfl, rfl, rfl, rfl⟩ rfl rfl rfl rfl rfl (by kernel_rfl) Try.func3 (by kernel_rfl)
    (of_decide_eq_true (by kernel_rfl)) (by unfold Func.isWrapper; first | (rw [if_pos (by decide +kernel)]; kernel_rfl) | (rw [if_neg (by decide +kernel)]; exact ⟨rfl, rfl⟩))
    (fun os started H enc _ => lifted3 os started H enc)

end Go.Proofs.Ytngcejakoaoojaa
