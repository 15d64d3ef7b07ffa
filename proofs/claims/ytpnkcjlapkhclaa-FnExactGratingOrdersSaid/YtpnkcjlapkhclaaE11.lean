/- The law FnExactGratingOrders holds: whatever the input, it says true, and the input reads as it did. No condition. -/
import Derived.Test.YtpnkcjlapkhclaaD7
import Derived.Test.YtpnkcjlapkhclaaRows
import Derived.ProofKit
namespace Go.Sm.Ytpnkcjlapkhclaa
open Go Go.Sm Go.RowKit Go.ChangeShapes Go.WideShapes Go.ChangeAt Go.Proofs Go.Proofs.Ytpnkcjlapkhclaa

theorem e11 (a : Nat) (b : Nat) (c : Nat) : runFn T7 none0 noL Try.f11 [.el (.sc (.fl .f32 a)), .el (.sc (.fl .f32 b)), .el (.sc (.fl .f32 c))] = (match (Nat.beq (orNil ((above a && above b) && fin c) (ordersOf (fun n => unit (gout a b c n)))).length (orNil ((above a && above b) && fin c) (ordersOf (fun n => unit (gout a b c n)))).length : Bool) with
  | true => (match (Nat.ble (orNil ((above a && above b) && fin c) (ordersOf (fun n => unit (gout a b c n)))).length big : Bool) with
    | true => (match (!(all2 sameI (orNil ((above a && above b) && fin c) (ordersOf (fun n => unit (gout a b c n)))) (orNil ((above a && above b) && fin c) (ordersOf (fun n => unit (gout a b c n))))) : Bool) with
      | true => some ⟨[.el (.sc (.bo false))], none⟩
      | false => (match (!(((above a && above b) && fin c) == ((above a && above b) && fin c)) : Bool) with
        | true => some ⟨[.el (.sc (.bo false))], none⟩
        | false => (match (decide (0 ≤ 1 ∧ 1 ≤ 1099511627776) && Nat.ble (orNil ((above a && above b) && fin c) (ordersOf (fun n => unit (gout a b c n)))).length big : Bool) with
          | true => (match (decide (0 ≤ 1 ∧ 1 ≤ 1099511627776) && Nat.ble (marksI 1 (orNil ((above a && above b) && fin c) (ordersOf (fun n => unit (gout a b c n)))).length).length big : Bool) with
            | true => (match (decide ((heldN (heldI 1 (marksI 1 (orNil ((above a && above b) && fin c) (ordersOf (fun n => unit (gout a b c n)))).length)) (1 + ((marksI 1 (orNil ((above a && above b) && fin c) (ordersOf (fun n => unit (gout a b c n)))).length).length : Int)) : Int) < 0) : Bool) with
              | true => some ⟨[.el (.sc (.bo false))], none⟩
              | false => (match (!((heldN (heldI 1 (marksI 1 (orNil ((above a && above b) && fin c) (ordersOf (fun n => unit (gout a b c n)))).length)) (1 + ((marksI 1 (orNil ((above a && above b) && fin c) (ordersOf (fun n => unit (gout a b c n)))).length).length : Int)) : Int) == 1 + ((orNil ((above a && above b) && fin c) (ordersOf (fun n => unit (gout a b c n)))).length : Int)) : Bool) with
                | true => some ⟨[.el (.sc (.bo false))], none⟩
                | false => (match (Nat.beq (orNil ((above a && above b) && fin c) (ordersOf (fun n => unit (gout a b c n)))).length (orNil ((above a && above b) && fin c) (ordersOf (fun n => unit (gout a b c n)))).length : Bool) with
                  | true => (match (Nat.ble (orNil ((above a && above b) && fin c) (ordersOf (fun n => unit (gout a b c n)))).length big : Bool) with
                    | true => (match (!(all2 sameI (orNil ((above a && above b) && fin c) (ordersOf (fun n => unit (gout a b c n)))) (orNil ((above a && above b) && fin c) (ordersOf (fun n => unit (gout a b c n))))) : Bool) with
                      | true => some ⟨[.el (.sc (.bo false))], none⟩
                      | false => (match (!(((above a && above b) && fin c) == ((above a && above b) && fin c)) : Bool) with
                        | true => some ⟨[.el (.sc (.bo false))], none⟩
                        | false => (match (decide (0 ≤ 1 ∧ 1 ≤ 1099511627776) && Nat.ble (marksI 1 (orNil ((above a && above b) && fin c) (ordersOf (fun n => unit (gout a b c n)))).length).length big : Bool) with
                          | true => (match (decide ((heldN (heldI 1 (marksI 1 (orNil ((above a && above b) && fin c) (ordersOf (fun n => unit (gout a b c n)))).length)) (1 + ((marksI 1 (orNil ((above a && above b) && fin c) (ordersOf (fun n => unit (gout a b c n)))).length).length : Int)) : Int) < 0) : Bool) with
                            | true => some ⟨[.el (.sc (.bo false))], none⟩
                            | false => (match (!((heldN (heldI 1 (marksI 1 (orNil ((above a && above b) && fin c) (ordersOf (fun n => unit (gout a b c n)))).length)) (1 + ((marksI 1 (orNil ((above a && above b) && fin c) (ordersOf (fun n => unit (gout a b c n)))).length).length : Int)) : Int) == 1 + ((orNil ((above a && above b) && fin c) (ordersOf (fun n => unit (gout a b c n)))).length : Int)) : Bool) with
                              | true => some ⟨[.el (.sc (.bo false))], none⟩
                              | false => some ⟨[.el (.sc (.bo true))], none⟩))
                          | false => none)))
                    | false => none)
                  | false => some ⟨[.el (.sc (.bo false))], none⟩)))
            | false => none)
          | false => none)))
    | false => none)
  | false => some ⟨[.el (.sc (.bo false))], none⟩) := by kernel_rfl
theorem s11 (a : Nat) (b : Nat) (c : Nat) (h_a : cn .f32 a = a ∧ a < 2 ^ 32) (h_b : cn .f32 b = b ∧ b < 2 ^ 32) (h_c : cn .f32 c = c ∧ c < 2 ^ 32) : runFn T7 none0 noL Try.f11 [.el (.sc (.fl .f32 a)), .el (.sc (.fl .f32 b)), .el (.sc (.fl .f32 c))] = some ⟨[.el (.sc (.bo true))], none⟩ := by
  rw [e11]
  generalize hD : orNil ((above a && above b) && fin c) (ordersOf (fun n => unit (gout a b c n))) = D
  have hDl : D.length ≤ 201 := by
    rw [← hD]
    unfold orNil
    split
    · exact orders_len _
    · simp
  have hb5 : Nat.ble D.length big = true := Nat.ble_eq_true_of_le (by unfold big; omega)
  have i3 : ¬ (1 + (D.length : Int) < 0) := by omega
  simp [hb5, i3, all2_refl sameI_refl, heldI_marks, heldN, marksI_len, Nat.beq_refl]

theorem core11 (xs : List FV) (h : AKs (AK.fits Try.prog) [.sc (.float .f32), .sc (.float .f32), .sc (.float .f32)] Try.f11.params.toList xs) : COK Try.prog 11 xs [.el (.sc (.bo true))] := by
  have hp : Try.f11.params.toList = [22, 22, 22] := by kernel_rfl
  rw [hp] at h
  obtain ⟨x0, x1, x2, rfl, hx0, hx1, hx2⟩ := aks3 h
  obtain ⟨s0, rfl, h0⟩ := hx0
  obtain ⟨a, rfl, h_a⟩ := fits_f32 h0
  obtain ⟨s1, rfl, h1⟩ := hx1
  obtain ⟨b, rfl, h_b⟩ := fits_f32 h1
  obtain ⟨s2, rfl, h2⟩ := hx2
  obtain ⟨c, rfl, h_c⟩ := fits_f32 h2
  show COK Try.prog 11 [.el (.sc (.fl .f32 a)), .el (.sc (.fl .f32 b)), .el (.sc (.fl .f32 c))] [.el (.sc (.bo true))]
  exact fn_ok tok7 (A := none0) (L := noL) (r := none) Try.func11 (by kernel_rfl) (by kernel_rfl) (loops0 (by kernel_rfl)) (s11 a b c h_a h_b h_c)

end Go.Sm.Ytpnkcjlapkhclaa
namespace Go.Proofs.Ytpnkcjlapkhclaa
open Go.Sm Go.Sm.Ytpnkcjlapkhclaa Go.ChangeShapes Go.WideShapes Go.ChangeAt Go.RowKit

set_option maxRecDepth 100000 in
theorem lifted11 (os : Os) (started : os.Started) (H : Type) (enc : TypeId × Value → H) :
    ReturnsInHanded {} Try.checked os 11 .any (Rows.fnExactGratingOrdersSpec.pre6 enc Try.prog Try.f11 Rows.fnExactGratingOrdersRow.domain false) (Rows.fnExactGratingOrdersSpec.post enc Try.prog Try.f11 false true false false) :=
  law_lifted (C := Try.checked) (aks := [.sc (.float .f32), .sc (.float .f32), .sc (.float .f32)]) (tb := 4) (by kernel_rfl) started (by kernel_rfl) Try.func11 (by kernel_rfl)
    (ChangeSpec.witness6 (enc := enc) (C := Try.checked) false ⟨#[], #[.float .f32 0, .float .f32 0, .float .f32 0], []⟩ 8 (by kernel_rfl) (by kernel_rfl) (by kernel_rfl) (by kernel_rfl))
    (fun t ht => by
      have hb : Try.f11.params.toList.all (fun t => Try.prog.readableRec t && decide (t < Try.prog.types.size)) = true := by kernel_rfl
      have := List.all_eq_true.1 hb t ht
      rw [Bool.and_eq_true] at this
      exact ⟨this.1, of_decide_eq_true this.2⟩)
    (by kernel_rfl) (by kernel_rfl) rfl
    (fun ds hd => by
      have hp : Try.f11.params.size = 3 := by kernel_rfl
      rw [hp] at hd
      match ds, hd with
      | [d0, d1, d2], _ => rfl)
    (rowsB_ok (by kernel_rfl)) core11

/-- **THE LAW.** -/
theorem FnExactGratingOrders_holds : Rows.FnExactGratingOrdersSaid :=
  OpenClaim.holds_of_wide 11 Try.f11 rfl rfl rfl rfl rfl rfl rfl ⟨rfl, rfl, rfl, rfl, rfl⟩ rfl rfl rfl rfl rfl (by kernel_rfl) Try.func11 (by kernel_rfl)
    (of_decide_eq_true (by kernel_rfl)) (by unfold Func.isWrapper; first | (rw [if_pos (by decide +kernel)]; kernel_rfl) | (rw [if_neg (by decide +kernel)]; exact ⟨rfl, rfl⟩))
    (fun os started H enc _ => lifted11 os started H enc)

end Go.Proofs.Ytpnkcjlapkhclaa
