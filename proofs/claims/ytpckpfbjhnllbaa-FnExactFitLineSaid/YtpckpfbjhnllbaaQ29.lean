/- What a function hands back: impl.solveRows. -/
import Derived.Test.YtpckpfbjhnllbaaD1
namespace Go.Sm.Ytpckpfbjhnllbaa
open Go Go.Sm Go.RowKit Go.Proofs

/-! impl.solveRows -/
/-! equations solved -/
def stO29 (n e : Nat) (X : List RX) (k : Nat) : St := ⟨[(0, .fv (.mv 0 e (idP n))), (4, .fv (.el (.sc (.int .i64 ((n : Nat) : Int))))), (17, .fv (.el (.sc (.int .i64 ((n : Nat) : Int))))), (18, .fv (.el (.sc (.int .i64 ((k : Nat) : Int)))))], rowsH X⟩
def stP29 (n e : Nat) (X : List RX) (k a i : Nat) : St := ⟨[(0, .fv (.mv 0 e (idP n))), (4, .fv (.el (.sc (.int .i64 ((n : Nat) : Int))))), (5, .fv (.el (.sc (.int .i64 ((k : Nat) : Int))))), (6, .fv (.el (.sc (.int .i64 ((a : Nat) : Int))))), (7, .fv (.el (.sc (.int .i64 ((i : Nat) : Int))))), (17, .fv (.el (.sc (.int .i64 ((n : Nat) : Int))))), (18, .fv (.el (.sc (.int .i64 ((k : Nat) : Int)))))], rowsH X⟩
def stE29 (n e : Nat) (X : List RX) (k a : Nat) : St := ⟨[(0, .fv (.mv 0 e (idP n))), (4, .fv (.el (.sc (.int .i64 ((n : Nat) : Int))))), (5, .fv (.el (.sc (.int .i64 ((k : Nat) : Int))))), (6, .fv (.el (.sc (.int .i64 ((a : Nat) : Int))))), (17, .fv (.el (.sc (.int .i64 ((n : Nat) : Int))))), (18, .fv (.el (.sc (.int .i64 ((k : Nat) : Int)))))], rowsH X⟩
def stX29 (n e : Nat) (X : List RX) : St := ⟨[(0, .fv (.mv 0 e (idP n))), (4, .fv (.el (.sc (.int .i64 ((n : Nat) : Int)))))], rowsH X⟩
def stN29 : St := ⟨[(2, .fv .nil), (3, .fv (.el (.sc (.bo false))))], []⟩
def cP29 (e : Nat) (X : List RX) (k : Nat) (K : Ex → St → Option Nat → R) : R := atCase none (fun a => K (.exit 2) (stE29 X.length e X k a) (some 0)) (X.length - k) k (pivN k X (X.length - k - 1) (k + 1) k)
def cO29 (e : Nat) (X : List RX) (K : Ex → St → Option Nat → R) : R := match gauss X.length 0 X with
  | some Y => K (.exit 0) (stX29 X.length e Y) (some 0)
  | none => K .ret stN29 none
def fP29 : St → Option Nat → (Ex → St → Option Nat → R) → R := fun s M K => match s, M with
  | ⟨[(0, .fv (.mv 0 e π)), (4, .fv (.el (.sc (.int .i64 n)))), (5, .fv (.el (.sc (.int .i64 k)))), (6, .fv (.el (.sc (.int .i64 a)))), (7, .fv (.el (.sc (.int .i64 i)))), (17, .fv (.el (.sc (.int .i64 n2)))), (18, .fv (.el (.sc (.int .i64 k2))))], none :: H⟩, some 0 => (match rowsBack H with
    | some X => bif ((Nat.ble 1 X.length && Nat.ble X.length 3) && (shB X.length X && (eqP π (idP X.length) && Nat.beq e 23))) && (decide (n = (X.length : Int) ∧ n2 = n ∧ k2 = k) && (decide (0 ≤ k ∧ k < (X.length : Int) ∧ a = k) && decide (i = k + 1))) then cP29 e X k.toNat K else none
    | none => none)
  | _, _ => none
def fO29 : St → Option Nat → (Ex → St → Option Nat → R) → R := fun s M K => match s, M with
  | ⟨[(0, .fv (.mv 0 e π)), (4, .fv (.el (.sc (.int .i64 n)))), (17, .fv (.el (.sc (.int .i64 n2)))), (18, .fv (.el (.sc (.int .i64 k))))], none :: H⟩, some 0 => (match rowsBack H with
    | some X => bif ((Nat.ble 1 X.length && Nat.ble X.length 3) && (shB X.length X && (eqP π (idP X.length) && Nat.beq e 23))) && decide (n = (X.length : Int) ∧ n2 = n ∧ k = 0) then cO29 e X K else none
    | none => none)
  | _, _ => none
def a29 : Ann := { lp := look [(3, [0, 4, 17, 18], [0, 4]), (7, [0, 4, 5, 6, 7, 17, 18], [0, 4, 5, 6, 17, 18])], rets := [2, 3], lm := fun k => bif Nat.beq k 3 then some fO29 else bif Nat.beq k 7 then some fP29 else none }
theorem pv29_1_0 (K : Ex → St → Option Nat → R) (e0 x00 x01 : Nat) : iterN a29 [0, 4, 5, 6, 7, 17, 18] [0, 4, 5, 6, 17, 18] (cuOf T1 a29 Try.f29 1) 1 (stP29 1 23 [(e0, [x00, x01])] 0 0 1) (some 0) K = pivC 0 [(e0, [x00, x01])] (fun a => K (.exit 2) (stE29 1 23 [(e0, [x00, x01])] 0 a) (some 0)) 0 1 0 := by kernel_rfl
theorem so29_1_0 (f : Nat) (K : Ex → St → Option Nat → R) (e0 x00 x01 : Nat) : iterN a29 [0, 4, 17, 18] [0, 4] (cuOf T1 a29 Try.f29 0) (f + 1) (stO29 1 23 [(e0, [x00, x01])] 0) (some 0) K = atCase2 none (fun a => bif !(big0 (gE (swapX [(e0, [x00, x01])] 0 a) 0 0)) then K .ret stN29 none else iterN a29 [0, 4, 17, 18] [0, 4] (cuOf T1 a29 Try.f29 0) f (stO29 1 23 (elimX 0 (swapX [(e0, [x00, x01])] 0 a)) 1) (some 0) K) 1 0 (pivN 0 [(e0, [x00, x01])] 0 1 0) := by kernel_rfl
theorem en29_1 (f : Nat) (K : Ex → St → Option Nat → R) (e0 x00 x01 : Nat) : iterN a29 [0, 4, 17, 18] [0, 4] (cuOf T1 a29 Try.f29 0) (f + 1) (stO29 1 23 [(e0, [x00, x01])] 1) (some 0) K = K (.exit 0) (stX29 1 23 [(e0, [x00, x01])]) (some 0) := by kernel_rfl
theorem pv29_2_0 (K : Ex → St → Option Nat → R) (e0 e1 x00 x01 x02 x10 x11 x12 : Nat) : iterN a29 [0, 4, 5, 6, 7, 17, 18] [0, 4, 5, 6, 17, 18] (cuOf T1 a29 Try.f29 1) 2 (stP29 2 23 [(e0, [x00, x01, x02]), (e1, [x10, x11, x12])] 0 0 1) (some 0) K = pivC 0 [(e0, [x00, x01, x02]), (e1, [x10, x11, x12])] (fun a => K (.exit 2) (stE29 2 23 [(e0, [x00, x01, x02]), (e1, [x10, x11, x12])] 0 a) (some 0)) 1 1 0 := by kernel_rfl
theorem so29_2_0 (f : Nat) (K : Ex → St → Option Nat → R) (e0 e1 x00 x01 x02 x10 x11 x12 : Nat) : iterN a29 [0, 4, 17, 18] [0, 4] (cuOf T1 a29 Try.f29 0) (f + 1) (stO29 2 23 [(e0, [x00, x01, x02]), (e1, [x10, x11, x12])] 0) (some 0) K = atCase2 none (fun a => bif !(big0 (gE (swapX [(e0, [x00, x01, x02]), (e1, [x10, x11, x12])] 0 a) 0 0)) then K .ret stN29 none else iterN a29 [0, 4, 17, 18] [0, 4] (cuOf T1 a29 Try.f29 0) f (stO29 2 23 (elimX 0 (swapX [(e0, [x00, x01, x02]), (e1, [x10, x11, x12])] 0 a)) 1) (some 0) K) 2 0 (pivN 0 [(e0, [x00, x01, x02]), (e1, [x10, x11, x12])] 1 1 0) := by kernel_rfl
theorem pv29_2_1 (K : Ex → St → Option Nat → R) (e0 e1 x00 x01 x02 x10 x11 x12 : Nat) : iterN a29 [0, 4, 5, 6, 7, 17, 18] [0, 4, 5, 6, 17, 18] (cuOf T1 a29 Try.f29 1) 1 (stP29 2 23 [(e0, [x00, x01, x02]), (e1, [x10, x11, x12])] 1 1 2) (some 0) K = pivC 1 [(e0, [x00, x01, x02]), (e1, [x10, x11, x12])] (fun a => K (.exit 2) (stE29 2 23 [(e0, [x00, x01, x02]), (e1, [x10, x11, x12])] 1 a) (some 0)) 0 2 1 := by kernel_rfl
theorem so29_2_1 (f : Nat) (K : Ex → St → Option Nat → R) (e0 e1 x00 x01 x02 x10 x11 x12 : Nat) : iterN a29 [0, 4, 17, 18] [0, 4] (cuOf T1 a29 Try.f29 0) (f + 1) (stO29 2 23 [(e0, [x00, x01, x02]), (e1, [x10, x11, x12])] 1) (some 0) K = atCase2 none (fun a => bif !(big0 (gE (swapX [(e0, [x00, x01, x02]), (e1, [x10, x11, x12])] 1 a) 1 1)) then K .ret stN29 none else iterN a29 [0, 4, 17, 18] [0, 4] (cuOf T1 a29 Try.f29 0) f (stO29 2 23 (elimX 1 (swapX [(e0, [x00, x01, x02]), (e1, [x10, x11, x12])] 1 a)) 2) (some 0) K) 1 1 (pivN 1 [(e0, [x00, x01, x02]), (e1, [x10, x11, x12])] 0 2 1) := by kernel_rfl
theorem en29_2 (f : Nat) (K : Ex → St → Option Nat → R) (e0 e1 x00 x01 x02 x10 x11 x12 : Nat) : iterN a29 [0, 4, 17, 18] [0, 4] (cuOf T1 a29 Try.f29 0) (f + 1) (stO29 2 23 [(e0, [x00, x01, x02]), (e1, [x10, x11, x12])] 2) (some 0) K = K (.exit 0) (stX29 2 23 [(e0, [x00, x01, x02]), (e1, [x10, x11, x12])]) (some 0) := by kernel_rfl
theorem pv29_3_0 (K : Ex → St → Option Nat → R) (e0 e1 e2 x00 x01 x02 x03 x10 x11 x12 x13 x20 x21 x22 x23 : Nat) : iterN a29 [0, 4, 5, 6, 7, 17, 18] [0, 4, 5, 6, 17, 18] (cuOf T1 a29 Try.f29 1) 3 (stP29 3 23 [(e0, [x00, x01, x02, x03]), (e1, [x10, x11, x12, x13]), (e2, [x20, x21, x22, x23])] 0 0 1) (some 0) K = pivC 0 [(e0, [x00, x01, x02, x03]), (e1, [x10, x11, x12, x13]), (e2, [x20, x21, x22, x23])] (fun a => K (.exit 2) (stE29 3 23 [(e0, [x00, x01, x02, x03]), (e1, [x10, x11, x12, x13]), (e2, [x20, x21, x22, x23])] 0 a) (some 0)) 2 1 0 := by kernel_rfl
theorem so29_3_0 (f : Nat) (K : Ex → St → Option Nat → R) (e0 e1 e2 x00 x01 x02 x03 x10 x11 x12 x13 x20 x21 x22 x23 : Nat) : iterN a29 [0, 4, 17, 18] [0, 4] (cuOf T1 a29 Try.f29 0) (f + 1) (stO29 3 23 [(e0, [x00, x01, x02, x03]), (e1, [x10, x11, x12, x13]), (e2, [x20, x21, x22, x23])] 0) (some 0) K = atCase2 none (fun a => bif !(big0 (gE (swapX [(e0, [x00, x01, x02, x03]), (e1, [x10, x11, x12, x13]), (e2, [x20, x21, x22, x23])] 0 a) 0 0)) then K .ret stN29 none else iterN a29 [0, 4, 17, 18] [0, 4] (cuOf T1 a29 Try.f29 0) f (stO29 3 23 (elimX 0 (swapX [(e0, [x00, x01, x02, x03]), (e1, [x10, x11, x12, x13]), (e2, [x20, x21, x22, x23])] 0 a)) 1) (some 0) K) 3 0 (pivN 0 [(e0, [x00, x01, x02, x03]), (e1, [x10, x11, x12, x13]), (e2, [x20, x21, x22, x23])] 2 1 0) := by kernel_rfl
theorem pv29_3_1 (K : Ex → St → Option Nat → R) (e0 e1 e2 x00 x01 x02 x03 x10 x11 x12 x13 x20 x21 x22 x23 : Nat) : iterN a29 [0, 4, 5, 6, 7, 17, 18] [0, 4, 5, 6, 17, 18] (cuOf T1 a29 Try.f29 1) 2 (stP29 3 23 [(e0, [x00, x01, x02, x03]), (e1, [x10, x11, x12, x13]), (e2, [x20, x21, x22, x23])] 1 1 2) (some 0) K = pivC 1 [(e0, [x00, x01, x02, x03]), (e1, [x10, x11, x12, x13]), (e2, [x20, x21, x22, x23])] (fun a => K (.exit 2) (stE29 3 23 [(e0, [x00, x01, x02, x03]), (e1, [x10, x11, x12, x13]), (e2, [x20, x21, x22, x23])] 1 a) (some 0)) 1 2 1 := by kernel_rfl
theorem so29_3_1 (f : Nat) (K : Ex → St → Option Nat → R) (e0 e1 e2 x00 x01 x02 x03 x10 x11 x12 x13 x20 x21 x22 x23 : Nat) : iterN a29 [0, 4, 17, 18] [0, 4] (cuOf T1 a29 Try.f29 0) (f + 1) (stO29 3 23 [(e0, [x00, x01, x02, x03]), (e1, [x10, x11, x12, x13]), (e2, [x20, x21, x22, x23])] 1) (some 0) K = atCase2 none (fun a => bif !(big0 (gE (swapX [(e0, [x00, x01, x02, x03]), (e1, [x10, x11, x12, x13]), (e2, [x20, x21, x22, x23])] 1 a) 1 1)) then K .ret stN29 none else iterN a29 [0, 4, 17, 18] [0, 4] (cuOf T1 a29 Try.f29 0) f (stO29 3 23 (elimX 1 (swapX [(e0, [x00, x01, x02, x03]), (e1, [x10, x11, x12, x13]), (e2, [x20, x21, x22, x23])] 1 a)) 2) (some 0) K) 2 1 (pivN 1 [(e0, [x00, x01, x02, x03]), (e1, [x10, x11, x12, x13]), (e2, [x20, x21, x22, x23])] 1 2 1) := by kernel_rfl
theorem pv29_3_2 (K : Ex → St → Option Nat → R) (e0 e1 e2 x00 x01 x02 x03 x10 x11 x12 x13 x20 x21 x22 x23 : Nat) : iterN a29 [0, 4, 5, 6, 7, 17, 18] [0, 4, 5, 6, 17, 18] (cuOf T1 a29 Try.f29 1) 1 (stP29 3 23 [(e0, [x00, x01, x02, x03]), (e1, [x10, x11, x12, x13]), (e2, [x20, x21, x22, x23])] 2 2 3) (some 0) K = pivC 2 [(e0, [x00, x01, x02, x03]), (e1, [x10, x11, x12, x13]), (e2, [x20, x21, x22, x23])] (fun a => K (.exit 2) (stE29 3 23 [(e0, [x00, x01, x02, x03]), (e1, [x10, x11, x12, x13]), (e2, [x20, x21, x22, x23])] 2 a) (some 0)) 0 3 2 := by kernel_rfl
theorem so29_3_2 (f : Nat) (K : Ex → St → Option Nat → R) (e0 e1 e2 x00 x01 x02 x03 x10 x11 x12 x13 x20 x21 x22 x23 : Nat) : iterN a29 [0, 4, 17, 18] [0, 4] (cuOf T1 a29 Try.f29 0) (f + 1) (stO29 3 23 [(e0, [x00, x01, x02, x03]), (e1, [x10, x11, x12, x13]), (e2, [x20, x21, x22, x23])] 2) (some 0) K = atCase2 none (fun a => bif !(big0 (gE (swapX [(e0, [x00, x01, x02, x03]), (e1, [x10, x11, x12, x13]), (e2, [x20, x21, x22, x23])] 2 a) 2 2)) then K .ret stN29 none else iterN a29 [0, 4, 17, 18] [0, 4] (cuOf T1 a29 Try.f29 0) f (stO29 3 23 (elimX 2 (swapX [(e0, [x00, x01, x02, x03]), (e1, [x10, x11, x12, x13]), (e2, [x20, x21, x22, x23])] 2 a)) 3) (some 0) K) 1 2 (pivN 2 [(e0, [x00, x01, x02, x03]), (e1, [x10, x11, x12, x13]), (e2, [x20, x21, x22, x23])] 0 3 2) := by kernel_rfl
theorem en29_3 (f : Nat) (K : Ex → St → Option Nat → R) (e0 e1 e2 x00 x01 x02 x03 x10 x11 x12 x13 x20 x21 x22 x23 : Nat) : iterN a29 [0, 4, 17, 18] [0, 4] (cuOf T1 a29 Try.f29 0) (f + 1) (stO29 3 23 [(e0, [x00, x01, x02, x03]), (e1, [x10, x11, x12, x13]), (e2, [x20, x21, x22, x23])] 3) (some 0) K = K (.exit 0) (stX29 3 23 [(e0, [x00, x01, x02, x03]), (e1, [x10, x11, x12, x13]), (e2, [x20, x21, x22, x23])]) (some 0) := by kernel_rfl
theorem pvA29 {n k : Nat} {K : Ex → St → Option Nat → R} {X : List RX} (hX : Sh n X) (hn : n ≤ 3) (hk : k < n) : ∃ f, iterN a29 [0, 4, 5, 6, 7, 17, 18] [0, 4, 5, 6, 17, 18] (cuOf T1 a29 Try.f29 1) f (stP29 n 23 X k k (k + 1)) (some 0) K = pivC k X (fun a => K (.exit 2) (stE29 n 23 X k a) (some 0)) (n - k - 1) (k + 1) k := by
  match n, k, hn, hk with
  | 1, 0, _, _ =>
    obtain ⟨e0, x00, x01, rfl⟩ := sh1 hX
    exact ⟨_, pv29_1_0 K _ _ _⟩
  | 2, 0, _, _ =>
    obtain ⟨e0, e1, x00, x01, x02, x10, x11, x12, rfl⟩ := sh2 hX
    exact ⟨_, pv29_2_0 K _ _ _ _ _ _ _ _⟩
  | 2, 1, _, _ =>
    obtain ⟨e0, e1, x00, x01, x02, x10, x11, x12, rfl⟩ := sh2 hX
    exact ⟨_, pv29_2_1 K _ _ _ _ _ _ _ _⟩
  | 3, 0, _, _ =>
    obtain ⟨e0, e1, e2, x00, x01, x02, x03, x10, x11, x12, x13, x20, x21, x22, x23, rfl⟩ := sh3 hX
    exact ⟨_, pv29_3_0 K _ _ _ _ _ _ _ _ _ _ _ _ _ _ _⟩
  | 3, 1, _, _ =>
    obtain ⟨e0, e1, e2, x00, x01, x02, x03, x10, x11, x12, x13, x20, x21, x22, x23, rfl⟩ := sh3 hX
    exact ⟨_, pv29_3_1 K _ _ _ _ _ _ _ _ _ _ _ _ _ _ _⟩
  | 3, 2, _, _ =>
    obtain ⟨e0, e1, e2, x00, x01, x02, x03, x10, x11, x12, x13, x20, x21, x22, x23, rfl⟩ := sh3 hX
    exact ⟨_, pv29_3_2 K _ _ _ _ _ _ _ _ _ _ _ _ _ _ _⟩
theorem soA29 {n k f : Nat} {K : Ex → St → Option Nat → R} {X : List RX} (hX : Sh n X) (hn : n ≤ 3) (hk : k < n) : iterN a29 [0, 4, 17, 18] [0, 4] (cuOf T1 a29 Try.f29 0) (f + 1) (stO29 n 23 X k) (some 0) K = bif !(big0 (gE (pivX k X) k k)) then K .ret stN29 none else iterN a29 [0, 4, 17, 18] [0, 4] (cuOf T1 a29 Try.f29 0) f (stO29 n 23 (elimX k (pivX k X)) (k + 1)) (some 0) K := by
  have hr := pivN_range k X (n - k - 1) (k + 1) k (by omega)
  match n, k, hn, hk, hr with
  | 1, 0, _, _, hr =>
    obtain ⟨e0, x00, x01, rfl⟩ := sh1 hX
    exact (so29_1_0 f K _ _ _).trans (atCase2_eq _ _ _ _ _ hr.1 (Nat.lt_of_lt_of_le hr.2 (by decide)))
  | 2, 0, _, _, hr =>
    obtain ⟨e0, e1, x00, x01, x02, x10, x11, x12, rfl⟩ := sh2 hX
    exact (so29_2_0 f K _ _ _ _ _ _ _ _).trans (atCase2_eq _ _ _ _ _ hr.1 (Nat.lt_of_lt_of_le hr.2 (by decide)))
  | 2, 1, _, _, hr =>
    obtain ⟨e0, e1, x00, x01, x02, x10, x11, x12, rfl⟩ := sh2 hX
    exact (so29_2_1 f K _ _ _ _ _ _ _ _).trans (atCase2_eq _ _ _ _ _ hr.1 (Nat.lt_of_lt_of_le hr.2 (by decide)))
  | 3, 0, _, _, hr =>
    obtain ⟨e0, e1, e2, x00, x01, x02, x03, x10, x11, x12, x13, x20, x21, x22, x23, rfl⟩ := sh3 hX
    exact (so29_3_0 f K _ _ _ _ _ _ _ _ _ _ _ _ _ _ _).trans (atCase2_eq _ _ _ _ _ hr.1 (Nat.lt_of_lt_of_le hr.2 (by decide)))
  | 3, 1, _, _, hr =>
    obtain ⟨e0, e1, e2, x00, x01, x02, x03, x10, x11, x12, x13, x20, x21, x22, x23, rfl⟩ := sh3 hX
    exact (so29_3_1 f K _ _ _ _ _ _ _ _ _ _ _ _ _ _ _).trans (atCase2_eq _ _ _ _ _ hr.1 (Nat.lt_of_lt_of_le hr.2 (by decide)))
  | 3, 2, _, _, hr =>
    obtain ⟨e0, e1, e2, x00, x01, x02, x03, x10, x11, x12, x13, x20, x21, x22, x23, rfl⟩ := sh3 hX
    exact (so29_3_2 f K _ _ _ _ _ _ _ _ _ _ _ _ _ _ _).trans (atCase2_eq _ _ _ _ _ hr.1 (Nat.lt_of_lt_of_le hr.2 (by decide)))
theorem enA29 {n f : Nat} {K : Ex → St → Option Nat → R} {X : List RX} (hX : Sh n X) (hn : n ≤ 3) (h1 : 1 ≤ n) : iterN a29 [0, 4, 17, 18] [0, 4] (cuOf T1 a29 Try.f29 0) (f + 1) (stO29 n 23 X n) (some 0) K = K (.exit 0) (stX29 n 23 X) (some 0) := by
  match n, hn, h1 with
  | 1, _, _ =>
    obtain ⟨e0, x00, x01, rfl⟩ := sh1 hX
    exact en29_1 f K _ _ _
  | 2, _, _ =>
    obtain ⟨e0, e1, x00, x01, x02, x10, x11, x12, rfl⟩ := sh2 hX
    exact en29_2 f K _ _ _ _ _ _ _ _
  | 3, _, _ =>
    obtain ⟨e0, e1, e2, x00, x01, x02, x03, x10, x11, x12, x13, x20, x21, x22, x23, rfl⟩ := sh3 hX
    exact en29_3 f K _ _ _ _ _ _ _ _ _ _ _ _ _ _ _
theorem ru29 {n : Nat} {K : Ex → St → Option Nat → R} (hn : n ≤ 3) (h1 : 1 ≤ n) : ∀ (m k : Nat) (X : List RX), Sh n X → k + m = n → iterN a29 [0, 4, 17, 18] [0, 4] (cuOf T1 a29 Try.f29 0) (m + 1) (stO29 n 23 X k) (some 0) K = match gauss m k X with
    | some Y => K (.exit 0) (stX29 n 23 Y) (some 0)
    | none => K .ret stN29 none
  | 0, k, X, hX, hk => by
    have : k = n := by omega
    subst this
    exact enA29 hX hn h1
  | m + 1, k, X, hX, hk => by
    rw [soA29 hX hn (by omega)]
    unfold gauss
    cases hb : big0 (gE (pivX k X) k k) with
    | false => rfl
    | true =>
      dsimp only [Bool.not_true, cond_false]
      exact ru29 hn h1 m (k + 1) _ (hX.piv (by omega)).elim (by omega)
theorem luP29 : LU T1 a29 Try.f29.ntmps 9 (loopAt Try.f29 1) := by
  intro ins outs F h1 h2 s M K out h
  have g1 : a29.lp (firstRegion (loopAt Try.f29 1)) = some ([0, 4, 5, 6, 7, 17, 18], [0, 4, 5, 6, 17, 18]) := by kernel_rfl
  have g2 : a29.lm (firstRegion (loopAt Try.f29 1)) = some fP29 := by kernel_rfl
  rw [g1] at h1
  rw [g2] at h2
  cases h1
  cases h2
  unfold fP29 at h
  split at h
  · rename_i e π n k a i n2 k2 H
    split at h
    · rename_i X hX
      have hb := rowsBack_ok hX
      generalize hc : ((Nat.ble 1 X.length && Nat.ble X.length 3) && (shB X.length X && (eqP π (idP X.length) && Nat.beq e 23))) = c1 at h
      cases c1 with
      | false => cases h
      | true =>
        simp only [Bool.true_and, cond_eq_ite] at h
        split at h
        · rename_i hd
          simp only [Bool.and_eq_true, decide_eq_true_eq] at hc hd
          obtain ⟨⟨c1, c2⟩, c3, c4, c5⟩ := hc
          have e6 := Nat.eq_of_beq_eq_true c5
          subst e6
          obtain ⟨⟨d4, d5, d6⟩, ⟨d1, d2, d7⟩, d3⟩ := hd
          have c1' := Nat.le_of_ble_eq_true c1
          have c2' := Nat.le_of_ble_eq_true c2
          have e4 := eqP_ok c4
          obtain ⟨kn, hkn⟩ : ∃ kn : Nat, k = (kn : Int) := ⟨k.toNat, by omega⟩
          subst hkn
          subst d4
          subst d5
          subst d6
          subst d7
          have e5 : i = ((kn + 1 : Nat) : Int) := by omega
          subst e5
          subst hb
          subst e4
          obtain ⟨f, hf⟩ := pvA29 (K := K) (shB_ok c3) c2' (show kn < X.length by omega)
          refine ⟨f, hf.trans ?_⟩
          rw [Int.toNat_natCast] at h
          unfold cP29 at h
          have hr := pivN_range kn X (X.length - kn - 1) (kn + 1) kn (by omega)
          rw [atCase_eq _ _ _ _ _ hr.1 (by omega)] at h
          exact (pivC_eq _ _ _ _ _ _).trans h
        · cases h
    · cases h
  · cases h
theorem luO29 : LU T1 a29 Try.f29.ntmps 9 (loopAt Try.f29 0) := by
  intro ins outs F h1 h2 s M K out h
  have g1 : a29.lp (firstRegion (loopAt Try.f29 0)) = some ([0, 4, 17, 18], [0, 4]) := by kernel_rfl
  have g2 : a29.lm (firstRegion (loopAt Try.f29 0)) = some fO29 := by kernel_rfl
  rw [g1] at h1
  rw [g2] at h2
  cases h1
  cases h2
  unfold fO29 at h
  split at h
  · rename_i e π n n2 k H
    split at h
    · rename_i X hX
      have hb := rowsBack_ok hX
      generalize hc : ((Nat.ble 1 X.length && Nat.ble X.length 3) && (shB X.length X && (eqP π (idP X.length) && Nat.beq e 23))) = c1 at h
      cases c1 with
      | false => cases h
      | true =>
        simp only [Bool.true_and, cond_eq_ite] at h
        split at h
        · rename_i hd
          simp only [Bool.and_eq_true, decide_eq_true_eq] at hc hd
          obtain ⟨⟨c1, c2⟩, c3, c4, c5⟩ := hc
          have e6 := Nat.eq_of_beq_eq_true c5
          subst e6
          obtain ⟨rfl, rfl, rfl⟩ := hd
          have c1' := Nat.le_of_ble_eq_true c1
          have c2' := Nat.le_of_ble_eq_true c2
          have e4 := eqP_ok c4
          subst hb
          subst e4
          refine ⟨X.length + 1, (ru29 c2' c1' X.length 0 X (shB_ok c3) (by omega)).trans ?_⟩
          exact h
        · cases h
    · cases h
  · cases h
theorem lu29 : LoopsU T1 a29 noL noG Try.f29.ntmps 9 (bodyOf Try.f29) :=
  loopsU6 (by kernel_rfl) luO29 luP29 (LU.none (by kernel_rfl)) (LU.none (by kernel_rfl)) (LU.none (by kernel_rfl)) (LU.none (by kernel_rfl))
def fi29 : Ex → St → Option Nat → R := fun e s _ => finK T1 false [.tmp 2, .tmp 3] e s
theorem ma29_1 (e0 x00 x01 : Nat) : codeU T1 a29 noL noG Try.f29.ntmps 9 (bodyOf Try.f29) ⟨[(0, .fv (.mv 0 23 (idP 1)))], rowsH [(e0, [x00, x01])]⟩ (some 0) fi29 = match gauss 1 0 [(e0, [x00, x01])] with
    | some Y => codeU T1 a29 noL noG Try.f29.ntmps 9 (rest3 (bodyOf Try.f29)) (stX29 1 23 Y) (some 0) fi29
    | none => fi29 .ret stN29 none := by kernel_rfl
theorem bk29_1 (e0 x00 x01 : Nat) : codeU T1 a29 noL noG Try.f29.ntmps 9 (rest3 (bodyOf Try.f29)) (stX29 1 23 [(e0, [x00, x01])]) (some 0) fi29 = some ⟨[.fresh 24 ⟨.f32, backX 1 0 [(e0, [x00, x01])]⟩, .el (.sc (.bo true))], none⟩ := by kernel_rfl
theorem ma29_2 (e0 e1 x00 x01 x02 x10 x11 x12 : Nat) : codeU T1 a29 noL noG Try.f29.ntmps 9 (bodyOf Try.f29) ⟨[(0, .fv (.mv 0 23 (idP 2)))], rowsH [(e0, [x00, x01, x02]), (e1, [x10, x11, x12])]⟩ (some 0) fi29 = match gauss 2 0 [(e0, [x00, x01, x02]), (e1, [x10, x11, x12])] with
    | some Y => codeU T1 a29 noL noG Try.f29.ntmps 9 (rest3 (bodyOf Try.f29)) (stX29 2 23 Y) (some 0) fi29
    | none => fi29 .ret stN29 none := by kernel_rfl
theorem bk29_2 (e0 e1 x00 x01 x02 x10 x11 x12 : Nat) : codeU T1 a29 noL noG Try.f29.ntmps 9 (rest3 (bodyOf Try.f29)) (stX29 2 23 [(e0, [x00, x01, x02]), (e1, [x10, x11, x12])]) (some 0) fi29 = some ⟨[.fresh 24 ⟨.f32, backX 2 0 [(e0, [x00, x01, x02]), (e1, [x10, x11, x12])]⟩, .el (.sc (.bo true))], none⟩ := by kernel_rfl
theorem ma29_3 (e0 e1 e2 x00 x01 x02 x03 x10 x11 x12 x13 x20 x21 x22 x23 : Nat) : codeU T1 a29 noL noG Try.f29.ntmps 9 (bodyOf Try.f29) ⟨[(0, .fv (.mv 0 23 (idP 3)))], rowsH [(e0, [x00, x01, x02, x03]), (e1, [x10, x11, x12, x13]), (e2, [x20, x21, x22, x23])]⟩ (some 0) fi29 = match gauss 3 0 [(e0, [x00, x01, x02, x03]), (e1, [x10, x11, x12, x13]), (e2, [x20, x21, x22, x23])] with
    | some Y => codeU T1 a29 noL noG Try.f29.ntmps 9 (rest3 (bodyOf Try.f29)) (stX29 3 23 Y) (some 0) fi29
    | none => fi29 .ret stN29 none := by kernel_rfl
theorem bk29_3 (e0 e1 e2 x00 x01 x02 x03 x10 x11 x12 x13 x20 x21 x22 x23 : Nat) : codeU T1 a29 noL noG Try.f29.ntmps 9 (rest3 (bodyOf Try.f29)) (stX29 3 23 [(e0, [x00, x01, x02, x03]), (e1, [x10, x11, x12, x13]), (e2, [x20, x21, x22, x23])]) (some 0) fi29 = some ⟨[.fresh 24 ⟨.f32, backX 3 0 [(e0, [x00, x01, x02, x03]), (e1, [x10, x11, x12, x13]), (e2, [x20, x21, x22, x23])]⟩, .el (.sc (.bo true))], none⟩ := by kernel_rfl
theorem maA29 {n : Nat} {X : List RX} (hX : Sh n X) (hn : n ≤ 3) (h1 : 1 ≤ n) : codeU T1 a29 noL noG Try.f29.ntmps 9 (bodyOf Try.f29) ⟨[(0, .fv (.mv 0 23 (idP n)))], rowsH X⟩ (some 0) fi29 = match gauss n 0 X with
    | some Y => some ⟨[.fresh 24 ⟨.f32, backX n 0 Y⟩, .el (.sc (.bo true))], none⟩
    | none => some ⟨[.nil, .el (.sc (.bo false))], none⟩ := by
  have hr : fi29 .ret stN29 none = some ⟨[.nil, .el (.sc (.bo false))], none⟩ := by kernel_rfl
  have hb : ∀ Y, gauss n 0 X = some Y → codeU T1 a29 noL noG Try.f29.ntmps 9 (rest3 (bodyOf Try.f29)) (stX29 n 23 Y) (some 0) fi29 = some ⟨[.fresh 24 ⟨.f32, backX n 0 Y⟩, .el (.sc (.bo true))], none⟩ := by
    intro Y hY
    have hX := hX.gauss (by omega) hY
    clear hY
    match n, hn, h1 with
    | 1, _, _ =>
      obtain ⟨e0, x00, x01, rfl⟩ := sh1 hX
      exact bk29_1 _ _ _
    | 2, _, _ =>
      obtain ⟨e0, e1, x00, x01, x02, x10, x11, x12, rfl⟩ := sh2 hX
      exact bk29_2 _ _ _ _ _ _ _ _
    | 3, _, _ =>
      obtain ⟨e0, e1, e2, x00, x01, x02, x03, x10, x11, x12, x13, x20, x21, x22, x23, rfl⟩ := sh3 hX
      exact bk29_3 _ _ _ _ _ _ _ _ _ _ _ _ _ _ _
  have hm : codeU T1 a29 noL noG Try.f29.ntmps 9 (bodyOf Try.f29) ⟨[(0, .fv (.mv 0 23 (idP n)))], rowsH X⟩ (some 0) fi29 = match gauss n 0 X with
    | some Y => codeU T1 a29 noL noG Try.f29.ntmps 9 (rest3 (bodyOf Try.f29)) (stX29 n 23 Y) (some 0) fi29
    | none => fi29 .ret stN29 none := by
    clear hb
    match n, hn, h1 with
    | 1, _, _ =>
      obtain ⟨e0, x00, x01, rfl⟩ := sh1 hX
      exact ma29_1 _ _ _
    | 2, _, _ =>
      obtain ⟨e0, e1, x00, x01, x02, x10, x11, x12, rfl⟩ := sh2 hX
      exact ma29_2 _ _ _ _ _ _ _ _
    | 3, _, _ =>
      obtain ⟨e0, e1, e2, x00, x01, x02, x03, x10, x11, x12, x13, x20, x21, x22, x23, rfl⟩ := sh3 hX
      exact ma29_3 _ _ _ _ _ _ _ _ _ _ _ _ _ _ _
  rw [hm]
  cases hg : gauss n 0 X with
  | none => exact hr
  | some Y => exact hb Y hg
theorem cx29 {xss : List (List Nat)} (hs : sqOk xss = true) (h3 : Nat.ble xss.length 3 = true) : CXOK Try.prog 29 23 ⟨.f32, xss⟩ (match solveL xss with
    | some l => [.fresh 24 ⟨.f32, l⟩, .el (.sc (.bo true))]
    | none => [.nil, .el (.sc (.bo false))]) := by
  have hs2 := hs
  unfold sqOk at hs2
  rw [Bool.and_eq_true, Bool.and_eq_true] at hs2
  refine runFX_ok tok1 noG_ok (A := a29) (L := noL) (fuel := 9) (r := none) Try.func29 (by kernel_rfl) (by kernel_rfl) hs2.1 lu29 (by cases solveL xss <;> rfl) fun es he => ?_
  have hm := maA29 (zip_sh es xss he rfl hs) (Nat.le_of_ble_eq_true h3) (Nat.le_of_ble_eq_true hs2.1)
  rw [solve_es es xss he]
  unfold runFX
  rw [rowsX_zip]
  have hrl : Try.f29.results.toList = [.tmp 2, .tmp 3] := by kernel_rfl
  rw [hrl]
  refine hm.trans ?_
  cases gauss xss.length 0 (zipE es xss) <;> rfl
theorem c29 (xss : List (List Nat)) (k : List RV → Vec → R) (out : Out) (h : (match (sqOk xss && Nat.ble xss.length 3 : Bool) with
    | true => (match solveL xss with
      | some l => k [.fresh 24 ⟨.f32, l⟩, .el (.sc (.bo true))] ⟨.al, [(23, 0)]⟩
      | none => k [.nil, .el (.sc (.bo false))] ⟨.al, [(23, 0)]⟩)
    | false => none) = some out) : ∃ rs vec, Real Try.prog 29 ∧ CMOK Try.prog 29 ⟨.lf, xss⟩ [] rs vec ∧ k rs vec = some out := by
  cases hs : (sqOk xss && Nat.ble xss.length 3 : Bool) with
  | false => rw [hs] at h; cases h
  | true =>
    rw [hs] at h
    rw [Bool.and_eq_true] at hs
    have hc := cx29 hs.1 hs.2
    cases hl : solveL xss with
    | none =>
      rw [hl] at h hc
      exact ⟨_, _, real Try.func29 (by kernel_rfl), cx_cm hc, h⟩
    | some l =>
      rw [hl] at h hc
      exact ⟨_, _, real Try.func29 (by kernel_rfl), cx_cm hc, h⟩


end Go.Sm.Ytpckpfbjhnllbaa
