/- What a function hands back: spec.l05Solve. -/
import Derived.Test.YtpckpfbjhnllbaaD1
namespace Go.Sm.Ytpckpfbjhnllbaa
open Go Go.Sm Go.RowKit Go.Proofs

/-! spec.l05Solve -/
/-! equations solved -/
def stO23 (n e : Nat) (X : List RX) (k : Nat) : St := ⟨[(0, .fv (.mv 0 e (idP n))), (4, .fv (.el (.sc (.int .i64 ((n : Nat) : Int))))), (5, .fv (.el (.sc (.int .i64 ((k : Nat) : Int)))))], rowsH X⟩
def stP23 (n e : Nat) (X : List RX) (k a i : Nat) : St := ⟨[(0, .fv (.mv 0 e (idP n))), (4, .fv (.el (.sc (.int .i64 ((n : Nat) : Int))))), (5, .fv (.el (.sc (.int .i64 ((k : Nat) : Int))))), (6, .fv (.el (.sc (.int .i64 ((a : Nat) : Int))))), (7, .fv (.el (.sc (.int .i64 ((i : Nat) : Int)))))], rowsH X⟩
def stE23 (n e : Nat) (X : List RX) (k a : Nat) : St := ⟨[(0, .fv (.mv 0 e (idP n))), (4, .fv (.el (.sc (.int .i64 ((n : Nat) : Int))))), (5, .fv (.el (.sc (.int .i64 ((k : Nat) : Int))))), (6, .fv (.el (.sc (.int .i64 ((a : Nat) : Int)))))], rowsH X⟩
def stX23 (n e : Nat) (X : List RX) : St := ⟨[(0, .fv (.mv 0 e (idP n))), (4, .fv (.el (.sc (.int .i64 ((n : Nat) : Int)))))], rowsH X⟩
def stN23 : St := ⟨[(2, .fv .nil), (3, .fv (.el (.sc (.bo false))))], []⟩
def cP23 (e : Nat) (X : List RX) (k : Nat) (K : Ex → St → Option Nat → R) : R := atCase none (fun a => K (.exit 2) (stE23 X.length e X k a) (some 0)) (X.length - k) k (pivN k X (X.length - k - 1) (k + 1) k)
def cO23 (e : Nat) (X : List RX) (K : Ex → St → Option Nat → R) : R := match gauss X.length 0 X with
  | some Y => K (.exit 0) (stX23 X.length e Y) (some 0)
  | none => K .ret stN23 none
def fP23 : St → Option Nat → (Ex → St → Option Nat → R) → R := fun s M K => match s, M with
  | ⟨[(0, .fv (.mv 0 e π)), (4, .fv (.el (.sc (.int .i64 n)))), (5, .fv (.el (.sc (.int .i64 k)))), (6, .fv (.el (.sc (.int .i64 a)))), (7, .fv (.el (.sc (.int .i64 i))))], none :: H⟩, some 0 => (match rowsBack H with
    | some X => bif ((Nat.ble 1 X.length && Nat.ble X.length 3) && (shB X.length X && (eqP π (idP X.length) && Nat.beq e 23))) && (decide (n = (X.length : Int)) && (decide (0 ≤ k ∧ k < (X.length : Int) ∧ a = k) && decide (i = k))) then cP23 e X k.toNat K else none
    | none => none)
  | _, _ => none
def fO23 : St → Option Nat → (Ex → St → Option Nat → R) → R := fun s M K => match s, M with
  | ⟨[(0, .fv (.mv 0 e π)), (4, .fv (.el (.sc (.int .i64 n)))), (5, .fv (.el (.sc (.int .i64 k))))], none :: H⟩, some 0 => (match rowsBack H with
    | some X => bif ((Nat.ble 1 X.length && Nat.ble X.length 3) && (shB X.length X && (eqP π (idP X.length) && Nat.beq e 23))) && decide (n = (X.length : Int) ∧ k = 0) then cO23 e X K else none
    | none => none)
  | _, _ => none
def a23 : Ann := { lp := look [(3, [0, 4, 5], [0, 4]), (7, [0, 4, 5, 6, 7], [0, 4, 5, 6])], rets := [2, 3], lm := fun k => bif Nat.beq k 3 then some fO23 else bif Nat.beq k 7 then some fP23 else none }
theorem pv23_1_0 (K : Ex → St → Option Nat → R) (e0 x00 x01 : Nat) : iterN a23 [0, 4, 5, 6, 7] [0, 4, 5, 6] (cuOf T1 a23 Try.f23 1) 2 (stP23 1 23 [(e0, [x00, x01])] 0 0 0) (some 0) K = pivC 0 [(e0, [x00, x01])] (fun a => K (.exit 2) (stE23 1 23 [(e0, [x00, x01])] 0 a) (some 0)) 1 0 0 := by kernel_rfl
theorem so23_1_0 (f : Nat) (K : Ex → St → Option Nat → R) (e0 x00 x01 : Nat) : iterN a23 [0, 4, 5] [0, 4] (cuOf T1 a23 Try.f23 0) (f + 1) (stO23 1 23 [(e0, [x00, x01])] 0) (some 0) K = atCase2 none (fun a => bif !(big0 (gE (swapX [(e0, [x00, x01])] 0 a) 0 0)) then K .ret stN23 none else iterN a23 [0, 4, 5] [0, 4] (cuOf T1 a23 Try.f23 0) f (stO23 1 23 (elimX 0 (swapX [(e0, [x00, x01])] 0 a)) 1) (some 0) K) 1 0 (pivN 0 [(e0, [x00, x01])] 0 1 0) := by kernel_rfl
theorem en23_1 (f : Nat) (K : Ex → St → Option Nat → R) (e0 x00 x01 : Nat) : iterN a23 [0, 4, 5] [0, 4] (cuOf T1 a23 Try.f23 0) (f + 1) (stO23 1 23 [(e0, [x00, x01])] 1) (some 0) K = K (.exit 0) (stX23 1 23 [(e0, [x00, x01])]) (some 0) := by kernel_rfl
theorem pv23_2_0 (K : Ex → St → Option Nat → R) (e0 e1 x00 x01 x02 x10 x11 x12 : Nat) : iterN a23 [0, 4, 5, 6, 7] [0, 4, 5, 6] (cuOf T1 a23 Try.f23 1) 3 (stP23 2 23 [(e0, [x00, x01, x02]), (e1, [x10, x11, x12])] 0 0 0) (some 0) K = pivC 0 [(e0, [x00, x01, x02]), (e1, [x10, x11, x12])] (fun a => K (.exit 2) (stE23 2 23 [(e0, [x00, x01, x02]), (e1, [x10, x11, x12])] 0 a) (some 0)) 2 0 0 := by kernel_rfl
theorem so23_2_0 (f : Nat) (K : Ex → St → Option Nat → R) (e0 e1 x00 x01 x02 x10 x11 x12 : Nat) : iterN a23 [0, 4, 5] [0, 4] (cuOf T1 a23 Try.f23 0) (f + 1) (stO23 2 23 [(e0, [x00, x01, x02]), (e1, [x10, x11, x12])] 0) (some 0) K = atCase2 none (fun a => bif !(big0 (gE (swapX [(e0, [x00, x01, x02]), (e1, [x10, x11, x12])] 0 a) 0 0)) then K .ret stN23 none else iterN a23 [0, 4, 5] [0, 4] (cuOf T1 a23 Try.f23 0) f (stO23 2 23 (elimX 0 (swapX [(e0, [x00, x01, x02]), (e1, [x10, x11, x12])] 0 a)) 1) (some 0) K) 2 0 (pivN 0 [(e0, [x00, x01, x02]), (e1, [x10, x11, x12])] 1 1 0) := by kernel_rfl
theorem pv23_2_1 (K : Ex → St → Option Nat → R) (e0 e1 x00 x01 x02 x10 x11 x12 : Nat) : iterN a23 [0, 4, 5, 6, 7] [0, 4, 5, 6] (cuOf T1 a23 Try.f23 1) 2 (stP23 2 23 [(e0, [x00, x01, x02]), (e1, [x10, x11, x12])] 1 1 1) (some 0) K = pivC 1 [(e0, [x00, x01, x02]), (e1, [x10, x11, x12])] (fun a => K (.exit 2) (stE23 2 23 [(e0, [x00, x01, x02]), (e1, [x10, x11, x12])] 1 a) (some 0)) 1 1 1 := by kernel_rfl
theorem so23_2_1 (f : Nat) (K : Ex → St → Option Nat → R) (e0 e1 x00 x01 x02 x10 x11 x12 : Nat) : iterN a23 [0, 4, 5] [0, 4] (cuOf T1 a23 Try.f23 0) (f + 1) (stO23 2 23 [(e0, [x00, x01, x02]), (e1, [x10, x11, x12])] 1) (some 0) K = atCase2 none (fun a => bif !(big0 (gE (swapX [(e0, [x00, x01, x02]), (e1, [x10, x11, x12])] 1 a) 1 1)) then K .ret stN23 none else iterN a23 [0, 4, 5] [0, 4] (cuOf T1 a23 Try.f23 0) f (stO23 2 23 (elimX 1 (swapX [(e0, [x00, x01, x02]), (e1, [x10, x11, x12])] 1 a)) 2) (some 0) K) 1 1 (pivN 1 [(e0, [x00, x01, x02]), (e1, [x10, x11, x12])] 0 2 1) := by kernel_rfl
theorem en23_2 (f : Nat) (K : Ex → St → Option Nat → R) (e0 e1 x00 x01 x02 x10 x11 x12 : Nat) : iterN a23 [0, 4, 5] [0, 4] (cuOf T1 a23 Try.f23 0) (f + 1) (stO23 2 23 [(e0, [x00, x01, x02]), (e1, [x10, x11, x12])] 2) (some 0) K = K (.exit 0) (stX23 2 23 [(e0, [x00, x01, x02]), (e1, [x10, x11, x12])]) (some 0) := by kernel_rfl
theorem pv23_3_0 (K : Ex → St → Option Nat → R) (e0 e1 e2 x00 x01 x02 x03 x10 x11 x12 x13 x20 x21 x22 x23 : Nat) : iterN a23 [0, 4, 5, 6, 7] [0, 4, 5, 6] (cuOf T1 a23 Try.f23 1) 4 (stP23 3 23 [(e0, [x00, x01, x02, x03]), (e1, [x10, x11, x12, x13]), (e2, [x20, x21, x22, x23])] 0 0 0) (some 0) K = pivC 0 [(e0, [x00, x01, x02, x03]), (e1, [x10, x11, x12, x13]), (e2, [x20, x21, x22, x23])] (fun a => K (.exit 2) (stE23 3 23 [(e0, [x00, x01, x02, x03]), (e1, [x10, x11, x12, x13]), (e2, [x20, x21, x22, x23])] 0 a) (some 0)) 3 0 0 := by kernel_rfl
theorem so23_3_0 (f : Nat) (K : Ex → St → Option Nat → R) (e0 e1 e2 x00 x01 x02 x03 x10 x11 x12 x13 x20 x21 x22 x23 : Nat) : iterN a23 [0, 4, 5] [0, 4] (cuOf T1 a23 Try.f23 0) (f + 1) (stO23 3 23 [(e0, [x00, x01, x02, x03]), (e1, [x10, x11, x12, x13]), (e2, [x20, x21, x22, x23])] 0) (some 0) K = atCase2 none (fun a => bif !(big0 (gE (swapX [(e0, [x00, x01, x02, x03]), (e1, [x10, x11, x12, x13]), (e2, [x20, x21, x22, x23])] 0 a) 0 0)) then K .ret stN23 none else iterN a23 [0, 4, 5] [0, 4] (cuOf T1 a23 Try.f23 0) f (stO23 3 23 (elimX 0 (swapX [(e0, [x00, x01, x02, x03]), (e1, [x10, x11, x12, x13]), (e2, [x20, x21, x22, x23])] 0 a)) 1) (some 0) K) 3 0 (pivN 0 [(e0, [x00, x01, x02, x03]), (e1, [x10, x11, x12, x13]), (e2, [x20, x21, x22, x23])] 2 1 0) := by kernel_rfl
theorem pv23_3_1 (K : Ex → St → Option Nat → R) (e0 e1 e2 x00 x01 x02 x03 x10 x11 x12 x13 x20 x21 x22 x23 : Nat) : iterN a23 [0, 4, 5, 6, 7] [0, 4, 5, 6] (cuOf T1 a23 Try.f23 1) 3 (stP23 3 23 [(e0, [x00, x01, x02, x03]), (e1, [x10, x11, x12, x13]), (e2, [x20, x21, x22, x23])] 1 1 1) (some 0) K = pivC 1 [(e0, [x00, x01, x02, x03]), (e1, [x10, x11, x12, x13]), (e2, [x20, x21, x22, x23])] (fun a => K (.exit 2) (stE23 3 23 [(e0, [x00, x01, x02, x03]), (e1, [x10, x11, x12, x13]), (e2, [x20, x21, x22, x23])] 1 a) (some 0)) 2 1 1 := by kernel_rfl
theorem so23_3_1 (f : Nat) (K : Ex → St → Option Nat → R) (e0 e1 e2 x00 x01 x02 x03 x10 x11 x12 x13 x20 x21 x22 x23 : Nat) : iterN a23 [0, 4, 5] [0, 4] (cuOf T1 a23 Try.f23 0) (f + 1) (stO23 3 23 [(e0, [x00, x01, x02, x03]), (e1, [x10, x11, x12, x13]), (e2, [x20, x21, x22, x23])] 1) (some 0) K = atCase2 none (fun a => bif !(big0 (gE (swapX [(e0, [x00, x01, x02, x03]), (e1, [x10, x11, x12, x13]), (e2, [x20, x21, x22, x23])] 1 a) 1 1)) then K .ret stN23 none else iterN a23 [0, 4, 5] [0, 4] (cuOf T1 a23 Try.f23 0) f (stO23 3 23 (elimX 1 (swapX [(e0, [x00, x01, x02, x03]), (e1, [x10, x11, x12, x13]), (e2, [x20, x21, x22, x23])] 1 a)) 2) (some 0) K) 2 1 (pivN 1 [(e0, [x00, x01, x02, x03]), (e1, [x10, x11, x12, x13]), (e2, [x20, x21, x22, x23])] 1 2 1) := by kernel_rfl
theorem pv23_3_2 (K : Ex → St → Option Nat → R) (e0 e1 e2 x00 x01 x02 x03 x10 x11 x12 x13 x20 x21 x22 x23 : Nat) : iterN a23 [0, 4, 5, 6, 7] [0, 4, 5, 6] (cuOf T1 a23 Try.f23 1) 2 (stP23 3 23 [(e0, [x00, x01, x02, x03]), (e1, [x10, x11, x12, x13]), (e2, [x20, x21, x22, x23])] 2 2 2) (some 0) K = pivC 2 [(e0, [x00, x01, x02, x03]), (e1, [x10, x11, x12, x13]), (e2, [x20, x21, x22, x23])] (fun a => K (.exit 2) (stE23 3 23 [(e0, [x00, x01, x02, x03]), (e1, [x10, x11, x12, x13]), (e2, [x20, x21, x22, x23])] 2 a) (some 0)) 1 2 2 := by kernel_rfl
theorem so23_3_2 (f : Nat) (K : Ex → St → Option Nat → R) (e0 e1 e2 x00 x01 x02 x03 x10 x11 x12 x13 x20 x21 x22 x23 : Nat) : iterN a23 [0, 4, 5] [0, 4] (cuOf T1 a23 Try.f23 0) (f + 1) (stO23 3 23 [(e0, [x00, x01, x02, x03]), (e1, [x10, x11, x12, x13]), (e2, [x20, x21, x22, x23])] 2) (some 0) K = atCase2 none (fun a => bif !(big0 (gE (swapX [(e0, [x00, x01, x02, x03]), (e1, [x10, x11, x12, x13]), (e2, [x20, x21, x22, x23])] 2 a) 2 2)) then K .ret stN23 none else iterN a23 [0, 4, 5] [0, 4] (cuOf T1 a23 Try.f23 0) f (stO23 3 23 (elimX 2 (swapX [(e0, [x00, x01, x02, x03]), (e1, [x10, x11, x12, x13]), (e2, [x20, x21, x22, x23])] 2 a)) 3) (some 0) K) 1 2 (pivN 2 [(e0, [x00, x01, x02, x03]), (e1, [x10, x11, x12, x13]), (e2, [x20, x21, x22, x23])] 0 3 2) := by kernel_rfl
theorem en23_3 (f : Nat) (K : Ex → St → Option Nat → R) (e0 e1 e2 x00 x01 x02 x03 x10 x11 x12 x13 x20 x21 x22 x23 : Nat) : iterN a23 [0, 4, 5] [0, 4] (cuOf T1 a23 Try.f23 0) (f + 1) (stO23 3 23 [(e0, [x00, x01, x02, x03]), (e1, [x10, x11, x12, x13]), (e2, [x20, x21, x22, x23])] 3) (some 0) K = K (.exit 0) (stX23 3 23 [(e0, [x00, x01, x02, x03]), (e1, [x10, x11, x12, x13]), (e2, [x20, x21, x22, x23])]) (some 0) := by kernel_rfl
theorem pvA23 {n k : Nat} {K : Ex → St → Option Nat → R} {X : List RX} (hX : Sh n X) (hn : n ≤ 3) (hk : k < n) : ∃ f, iterN a23 [0, 4, 5, 6, 7] [0, 4, 5, 6] (cuOf T1 a23 Try.f23 1) f (stP23 n 23 X k k (k)) (some 0) K = pivC k X (fun a => K (.exit 2) (stE23 n 23 X k a) (some 0)) (n - k) k k := by
  match n, k, hn, hk with
  | 1, 0, _, _ =>
    obtain ⟨e0, x00, x01, rfl⟩ := sh1 hX
    exact ⟨_, pv23_1_0 K _ _ _⟩
  | 2, 0, _, _ =>
    obtain ⟨e0, e1, x00, x01, x02, x10, x11, x12, rfl⟩ := sh2 hX
    exact ⟨_, pv23_2_0 K _ _ _ _ _ _ _ _⟩
  | 2, 1, _, _ =>
    obtain ⟨e0, e1, x00, x01, x02, x10, x11, x12, rfl⟩ := sh2 hX
    exact ⟨_, pv23_2_1 K _ _ _ _ _ _ _ _⟩
  | 3, 0, _, _ =>
    obtain ⟨e0, e1, e2, x00, x01, x02, x03, x10, x11, x12, x13, x20, x21, x22, x23, rfl⟩ := sh3 hX
    exact ⟨_, pv23_3_0 K _ _ _ _ _ _ _ _ _ _ _ _ _ _ _⟩
  | 3, 1, _, _ =>
    obtain ⟨e0, e1, e2, x00, x01, x02, x03, x10, x11, x12, x13, x20, x21, x22, x23, rfl⟩ := sh3 hX
    exact ⟨_, pv23_3_1 K _ _ _ _ _ _ _ _ _ _ _ _ _ _ _⟩
  | 3, 2, _, _ =>
    obtain ⟨e0, e1, e2, x00, x01, x02, x03, x10, x11, x12, x13, x20, x21, x22, x23, rfl⟩ := sh3 hX
    exact ⟨_, pv23_3_2 K _ _ _ _ _ _ _ _ _ _ _ _ _ _ _⟩
theorem soA23 {n k f : Nat} {K : Ex → St → Option Nat → R} {X : List RX} (hX : Sh n X) (hn : n ≤ 3) (hk : k < n) : iterN a23 [0, 4, 5] [0, 4] (cuOf T1 a23 Try.f23 0) (f + 1) (stO23 n 23 X k) (some 0) K = bif !(big0 (gE (pivX k X) k k)) then K .ret stN23 none else iterN a23 [0, 4, 5] [0, 4] (cuOf T1 a23 Try.f23 0) f (stO23 n 23 (elimX k (pivX k X)) (k + 1)) (some 0) K := by
  have hr := pivN_range k X (n - k - 1) (k + 1) k (by omega)
  match n, k, hn, hk, hr with
  | 1, 0, _, _, hr =>
    obtain ⟨e0, x00, x01, rfl⟩ := sh1 hX
    exact (so23_1_0 f K _ _ _).trans (atCase2_eq _ _ _ _ _ hr.1 (Nat.lt_of_lt_of_le hr.2 (by decide)))
  | 2, 0, _, _, hr =>
    obtain ⟨e0, e1, x00, x01, x02, x10, x11, x12, rfl⟩ := sh2 hX
    exact (so23_2_0 f K _ _ _ _ _ _ _ _).trans (atCase2_eq _ _ _ _ _ hr.1 (Nat.lt_of_lt_of_le hr.2 (by decide)))
  | 2, 1, _, _, hr =>
    obtain ⟨e0, e1, x00, x01, x02, x10, x11, x12, rfl⟩ := sh2 hX
    exact (so23_2_1 f K _ _ _ _ _ _ _ _).trans (atCase2_eq _ _ _ _ _ hr.1 (Nat.lt_of_lt_of_le hr.2 (by decide)))
  | 3, 0, _, _, hr =>
    obtain ⟨e0, e1, e2, x00, x01, x02, x03, x10, x11, x12, x13, x20, x21, x22, x23, rfl⟩ := sh3 hX
    exact (so23_3_0 f K _ _ _ _ _ _ _ _ _ _ _ _ _ _ _).trans (atCase2_eq _ _ _ _ _ hr.1 (Nat.lt_of_lt_of_le hr.2 (by decide)))
  | 3, 1, _, _, hr =>
    obtain ⟨e0, e1, e2, x00, x01, x02, x03, x10, x11, x12, x13, x20, x21, x22, x23, rfl⟩ := sh3 hX
    exact (so23_3_1 f K _ _ _ _ _ _ _ _ _ _ _ _ _ _ _).trans (atCase2_eq _ _ _ _ _ hr.1 (Nat.lt_of_lt_of_le hr.2 (by decide)))
  | 3, 2, _, _, hr =>
    obtain ⟨e0, e1, e2, x00, x01, x02, x03, x10, x11, x12, x13, x20, x21, x22, x23, rfl⟩ := sh3 hX
    exact (so23_3_2 f K _ _ _ _ _ _ _ _ _ _ _ _ _ _ _).trans (atCase2_eq _ _ _ _ _ hr.1 (Nat.lt_of_lt_of_le hr.2 (by decide)))
theorem enA23 {n f : Nat} {K : Ex → St → Option Nat → R} {X : List RX} (hX : Sh n X) (hn : n ≤ 3) (h1 : 1 ≤ n) : iterN a23 [0, 4, 5] [0, 4] (cuOf T1 a23 Try.f23 0) (f + 1) (stO23 n 23 X n) (some 0) K = K (.exit 0) (stX23 n 23 X) (some 0) := by
  match n, hn, h1 with
  | 1, _, _ =>
    obtain ⟨e0, x00, x01, rfl⟩ := sh1 hX
    exact en23_1 f K _ _ _
  | 2, _, _ =>
    obtain ⟨e0, e1, x00, x01, x02, x10, x11, x12, rfl⟩ := sh2 hX
    exact en23_2 f K _ _ _ _ _ _ _ _
  | 3, _, _ =>
    obtain ⟨e0, e1, e2, x00, x01, x02, x03, x10, x11, x12, x13, x20, x21, x22, x23, rfl⟩ := sh3 hX
    exact en23_3 f K _ _ _ _ _ _ _ _ _ _ _ _ _ _ _
theorem ru23 {n : Nat} {K : Ex → St → Option Nat → R} (hn : n ≤ 3) (h1 : 1 ≤ n) : ∀ (m k : Nat) (X : List RX), Sh n X → k + m = n → iterN a23 [0, 4, 5] [0, 4] (cuOf T1 a23 Try.f23 0) (m + 1) (stO23 n 23 X k) (some 0) K = match gauss m k X with
    | some Y => K (.exit 0) (stX23 n 23 Y) (some 0)
    | none => K .ret stN23 none
  | 0, k, X, hX, hk => by
    have : k = n := by omega
    subst this
    exact enA23 hX hn h1
  | m + 1, k, X, hX, hk => by
    rw [soA23 hX hn (by omega)]
    unfold gauss
    cases hb : big0 (gE (pivX k X) k k) with
    | false => rfl
    | true =>
      dsimp only [Bool.not_true, cond_false]
      exact ru23 hn h1 m (k + 1) _ (hX.piv (by omega)).elim (by omega)
theorem luP23 : LU T1 a23 Try.f23.ntmps 9 (loopAt Try.f23 1) := by
  intro ins outs F h1 h2 s M K out h
  have g1 : a23.lp (firstRegion (loopAt Try.f23 1)) = some ([0, 4, 5, 6, 7], [0, 4, 5, 6]) := by kernel_rfl
  have g2 : a23.lm (firstRegion (loopAt Try.f23 1)) = some fP23 := by kernel_rfl
  rw [g1] at h1
  rw [g2] at h2
  cases h1
  cases h2
  unfold fP23 at h
  split at h
  · rename_i e π n k a i H
    split at h
    · rename_i X hX
      have hb := rowsBack_ok hX
      generalize hc : ((Nat.ble 1 X.length && Nat.ble X.length 3) && (shB X.length X && (eqP π (idP X.length) && Nat.beq e 23))) = c1 at h
      cases c1 with
      | false => cases h
      | true =>
        simp only [Bool.true_and, cond_eq_ite] at h
        split at h
        · rename_i hd
          simp only [Bool.and_eq_true, decide_eq_true_eq] at hc hd
          obtain ⟨⟨c1, c2⟩, c3, c4, c5⟩ := hc
          have e6 := Nat.eq_of_beq_eq_true c5
          subst e6
          obtain ⟨d4, ⟨d1, d2, d7⟩, d3⟩ := hd
          have c1' := Nat.le_of_ble_eq_true c1
          have c2' := Nat.le_of_ble_eq_true c2
          have e4 := eqP_ok c4
          obtain ⟨kn, hkn⟩ : ∃ kn : Nat, k = (kn : Int) := ⟨k.toNat, by omega⟩
          subst hkn
          subst d4
          subst d7
          subst d3
          subst hb
          subst e4
          obtain ⟨f, hf⟩ := pvA23 (K := K) (shB_ok c3) c2' (show kn < X.length by omega)
          refine ⟨f, hf.trans ?_⟩
          rw [Int.toNat_natCast] at h
          unfold cP23 at h
          have hr := pivN_range kn X (X.length - kn - 1) (kn + 1) kn (by omega)
          rw [atCase_eq _ _ _ _ _ hr.1 (by omega)] at h
          rw [pivC_eq]
          have hp : pivN kn X (X.length - kn) kn kn = pivN kn X (X.length - kn - 1) (kn + 1) kn := by
            obtain ⟨m, hm⟩ : ∃ m, X.length - kn = m + 1 := ⟨X.length - kn - 1, by omega⟩
            rw [hm]
            show (match gtM (gE X kn kn) (gE X kn kn) with | true => _ | false => _) = _
            cases gtM (gE X kn kn) (gE X kn kn) <;> rfl
          rw [hp]
          exact h
        · cases h
    · cases h
  · cases h
theorem luO23 : LU T1 a23 Try.f23.ntmps 9 (loopAt Try.f23 0) := by
  intro ins outs F h1 h2 s M K out h
  have g1 : a23.lp (firstRegion (loopAt Try.f23 0)) = some ([0, 4, 5], [0, 4]) := by kernel_rfl
  have g2 : a23.lm (firstRegion (loopAt Try.f23 0)) = some fO23 := by kernel_rfl
  rw [g1] at h1
  rw [g2] at h2
  cases h1
  cases h2
  unfold fO23 at h
  split at h
  · rename_i e π n k H
    split at h
    · rename_i X hX
      have hb := rowsBack_ok hX
      generalize hc : ((Nat.ble 1 X.length && Nat.ble X.length 3) && (shB X.length X && (eqP π (idP X.length) && Nat.beq e 23))) = c1 at h
      cases c1 with
      | false => cases h
      | true =>
        simp only [Bool.true_and, cond_eq_ite] at h
        split at h
        · rename_i hd
          simp only [Bool.and_eq_true, decide_eq_true_eq] at hc hd
          obtain ⟨⟨c1, c2⟩, c3, c4, c5⟩ := hc
          have e6 := Nat.eq_of_beq_eq_true c5
          subst e6
          obtain ⟨rfl, rfl, rfl⟩ := hd
          have c1' := Nat.le_of_ble_eq_true c1
          have c2' := Nat.le_of_ble_eq_true c2
          have e4 := eqP_ok c4
          subst hb
          subst e4
          refine ⟨X.length + 1, (ru23 c2' c1' X.length 0 X (shB_ok c3) (by omega)).trans ?_⟩
          exact h
        · cases h
    · cases h
  · cases h
theorem lu23 : LoopsU T1 a23 noL noG Try.f23.ntmps 9 (bodyOf Try.f23) :=
  loopsU6 (by kernel_rfl) luO23 luP23 (LU.none (by kernel_rfl)) (LU.none (by kernel_rfl)) (LU.none (by kernel_rfl)) (LU.none (by kernel_rfl))
def fi23 : Ex → St → Option Nat → R := fun e s _ => finK T1 false [.tmp 2, .tmp 3] e s
theorem ma23_1 (e0 x00 x01 : Nat) : codeU T1 a23 noL noG Try.f23.ntmps 9 (bodyOf Try.f23) ⟨[(0, .fv (.mv 0 23 (idP 1)))], rowsH [(e0, [x00, x01])]⟩ (some 0) fi23 = match gauss 1 0 [(e0, [x00, x01])] with
    | some Y => codeU T1 a23 noL noG Try.f23.ntmps 9 (rest3 (bodyOf Try.f23)) (stX23 1 23 Y) (some 0) fi23
    | none => fi23 .ret stN23 none := by kernel_rfl
theorem bk23_1 (e0 x00 x01 : Nat) : codeU T1 a23 noL noG Try.f23.ntmps 9 (rest3 (bodyOf Try.f23)) (stX23 1 23 [(e0, [x00, x01])]) (some 0) fi23 = some ⟨[.fresh 24 ⟨.f32, backX 1 0 [(e0, [x00, x01])]⟩, .el (.sc (.bo true))], none⟩ := by kernel_rfl
theorem ma23_2 (e0 e1 x00 x01 x02 x10 x11 x12 : Nat) : codeU T1 a23 noL noG Try.f23.ntmps 9 (bodyOf Try.f23) ⟨[(0, .fv (.mv 0 23 (idP 2)))], rowsH [(e0, [x00, x01, x02]), (e1, [x10, x11, x12])]⟩ (some 0) fi23 = match gauss 2 0 [(e0, [x00, x01, x02]), (e1, [x10, x11, x12])] with
    | some Y => codeU T1 a23 noL noG Try.f23.ntmps 9 (rest3 (bodyOf Try.f23)) (stX23 2 23 Y) (some 0) fi23
    | none => fi23 .ret stN23 none := by kernel_rfl
theorem bk23_2 (e0 e1 x00 x01 x02 x10 x11 x12 : Nat) : codeU T1 a23 noL noG Try.f23.ntmps 9 (rest3 (bodyOf Try.f23)) (stX23 2 23 [(e0, [x00, x01, x02]), (e1, [x10, x11, x12])]) (some 0) fi23 = some ⟨[.fresh 24 ⟨.f32, backX 2 0 [(e0, [x00, x01, x02]), (e1, [x10, x11, x12])]⟩, .el (.sc (.bo true))], none⟩ := by kernel_rfl
theorem ma23_3 (e0 e1 e2 x00 x01 x02 x03 x10 x11 x12 x13 x20 x21 x22 x23 : Nat) : codeU T1 a23 noL noG Try.f23.ntmps 9 (bodyOf Try.f23) ⟨[(0, .fv (.mv 0 23 (idP 3)))], rowsH [(e0, [x00, x01, x02, x03]), (e1, [x10, x11, x12, x13]), (e2, [x20, x21, x22, x23])]⟩ (some 0) fi23 = match gauss 3 0 [(e0, [x00, x01, x02, x03]), (e1, [x10, x11, x12, x13]), (e2, [x20, x21, x22, x23])] with
    | some Y => codeU T1 a23 noL noG Try.f23.ntmps 9 (rest3 (bodyOf Try.f23)) (stX23 3 23 Y) (some 0) fi23
    | none => fi23 .ret stN23 none := by kernel_rfl
theorem bk23_3 (e0 e1 e2 x00 x01 x02 x03 x10 x11 x12 x13 x20 x21 x22 x23 : Nat) : codeU T1 a23 noL noG Try.f23.ntmps 9 (rest3 (bodyOf Try.f23)) (stX23 3 23 [(e0, [x00, x01, x02, x03]), (e1, [x10, x11, x12, x13]), (e2, [x20, x21, x22, x23])]) (some 0) fi23 = some ⟨[.fresh 24 ⟨.f32, backX 3 0 [(e0, [x00, x01, x02, x03]), (e1, [x10, x11, x12, x13]), (e2, [x20, x21, x22, x23])]⟩, .el (.sc (.bo true))], none⟩ := by kernel_rfl
theorem maA23 {n : Nat} {X : List RX} (hX : Sh n X) (hn : n ≤ 3) (h1 : 1 ≤ n) : codeU T1 a23 noL noG Try.f23.ntmps 9 (bodyOf Try.f23) ⟨[(0, .fv (.mv 0 23 (idP n)))], rowsH X⟩ (some 0) fi23 = match gauss n 0 X with
    | some Y => some ⟨[.fresh 24 ⟨.f32, backX n 0 Y⟩, .el (.sc (.bo true))], none⟩
    | none => some ⟨[.nil, .el (.sc (.bo false))], none⟩ := by
  have hr : fi23 .ret stN23 none = some ⟨[.nil, .el (.sc (.bo false))], none⟩ := by kernel_rfl
  have hb : ∀ Y, gauss n 0 X = some Y → codeU T1 a23 noL noG Try.f23.ntmps 9 (rest3 (bodyOf Try.f23)) (stX23 n 23 Y) (some 0) fi23 = some ⟨[.fresh 24 ⟨.f32, backX n 0 Y⟩, .el (.sc (.bo true))], none⟩ := by
    intro Y hY
    have hX := hX.gauss (by omega) hY
    clear hY
    match n, hn, h1 with
    | 1, _, _ =>
      obtain ⟨e0, x00, x01, rfl⟩ := sh1 hX
      exact bk23_1 _ _ _
    | 2, _, _ =>
      obtain ⟨e0, e1, x00, x01, x02, x10, x11, x12, rfl⟩ := sh2 hX
      exact bk23_2 _ _ _ _ _ _ _ _
    | 3, _, _ =>
      obtain ⟨e0, e1, e2, x00, x01, x02, x03, x10, x11, x12, x13, x20, x21, x22, x23, rfl⟩ := sh3 hX
      exact bk23_3 _ _ _ _ _ _ _ _ _ _ _ _ _ _ _
  have hm : codeU T1 a23 noL noG Try.f23.ntmps 9 (bodyOf Try.f23) ⟨[(0, .fv (.mv 0 23 (idP n)))], rowsH X⟩ (some 0) fi23 = match gauss n 0 X with
    | some Y => codeU T1 a23 noL noG Try.f23.ntmps 9 (rest3 (bodyOf Try.f23)) (stX23 n 23 Y) (some 0) fi23
    | none => fi23 .ret stN23 none := by
    clear hb
    match n, hn, h1 with
    | 1, _, _ =>
      obtain ⟨e0, x00, x01, rfl⟩ := sh1 hX
      exact ma23_1 _ _ _
    | 2, _, _ =>
      obtain ⟨e0, e1, x00, x01, x02, x10, x11, x12, rfl⟩ := sh2 hX
      exact ma23_2 _ _ _ _ _ _ _ _
    | 3, _, _ =>
      obtain ⟨e0, e1, e2, x00, x01, x02, x03, x10, x11, x12, x13, x20, x21, x22, x23, rfl⟩ := sh3 hX
      exact ma23_3 _ _ _ _ _ _ _ _ _ _ _ _ _ _ _
  rw [hm]
  cases hg : gauss n 0 X with
  | none => exact hr
  | some Y => exact hb Y hg
theorem cx23 {xss : List (List Nat)} (hs : sqOk xss = true) (h3 : Nat.ble xss.length 3 = true) : CXOK Try.prog 23 23 ⟨.f32, xss⟩ (match solveL xss with
    | some l => [.fresh 24 ⟨.f32, l⟩, .el (.sc (.bo true))]
    | none => [.nil, .el (.sc (.bo false))]) := by
  have hs2 := hs
  unfold sqOk at hs2
  rw [Bool.and_eq_true, Bool.and_eq_true] at hs2
  refine runFX_ok tok1 noG_ok (A := a23) (L := noL) (fuel := 9) (r := none) Try.func23 (by kernel_rfl) (by kernel_rfl) hs2.1 lu23 (by cases solveL xss <;> rfl) fun es he => ?_
  have hm := maA23 (zip_sh es xss he rfl hs) (Nat.le_of_ble_eq_true h3) (Nat.le_of_ble_eq_true hs2.1)
  rw [solve_es es xss he]
  unfold runFX
  rw [rowsX_zip]
  have hrl : Try.f23.results.toList = [.tmp 2, .tmp 3] := by kernel_rfl
  rw [hrl]
  refine hm.trans ?_
  cases gauss xss.length 0 (zipE es xss) <;> rfl
theorem c23 (xss : List (List Nat)) (k : List RV → Vec → R) (out : Out) (h : (match (sqOk xss && Nat.ble xss.length 3 : Bool) with
    | true => (match solveL xss with
      | some l => k [.fresh 24 ⟨.f32, l⟩, .el (.sc (.bo true))] ⟨.al, [(23, 0)]⟩
      | none => k [.nil, .el (.sc (.bo false))] ⟨.al, [(23, 0)]⟩)
    | false => none) = some out) : ∃ rs vec, Real Try.prog 23 ∧ CMOK Try.prog 23 ⟨.lf, xss⟩ [] rs vec ∧ k rs vec = some out := by
  cases hs : (sqOk xss && Nat.ble xss.length 3 : Bool) with
  | false => rw [hs] at h; cases h
  | true =>
    rw [hs] at h
    rw [Bool.and_eq_true] at hs
    have hc := cx23 hs.1 hs.2
    cases hl : solveL xss with
    | none =>
      rw [hl] at h hc
      exact ⟨_, _, real Try.func23 (by kernel_rfl), cx_cm hc, h⟩
    | some l =>
      rw [hl] at h hc
      exact ⟨_, _, real Try.func23 (by kernel_rfl), cx_cm hc, h⟩


end Go.Sm.Ytpckpfbjhnllbaa
