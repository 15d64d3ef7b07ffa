/- A machine on plain data, its laws: part 6. -/
import Derived.Test.YtpckpfbjhnllbaaK5
namespace Go.Sm
open Go
def dotF (xs ys : List Nat) (j : Nat) (s : Nat) : Nat := fop .add .f32 s (fop .mul .f32 (xs.getD j 0) (ys.getD j 0))
def dotP (xs ys : List Nat) : Nat := rep (dotF xs ys) xs.length 0 0
def gramR (fs : List (List Nat)) (ys a : List Nat) : List Nat := (fs ++ [ys]).map (dotP a)
def gram (fs : List (List Nat)) (ys : List Nat) : List (List Nat) := fs.map (gramR fs ys)
abbrev RX := Nat × List Nat
def rx (X : List RX) (i : Nat) : RX := X.getD i (0, [])
def gE (X : List RX) (i j : Nat) : Nat := (rx X i).2.getD j 0
def pivN (k : Nat) (X : List RX) : Nat → Nat → Nat → Nat
  | 0, _, a => a
  | m + 1, i, a => match gtM (gE X i k) (gE X a k) with
    | true => pivN k X m (i + 1) i
    | false => pivN k X m (i + 1) a
def pivC {α : Type} (k : Nat) (X : List RX) (f : Nat → α) : Nat → Nat → Nat → α
  | 0, _, a => f a
  | m + 1, i, a => match gtM (gE X i k) (gE X a k) with
    | true => pivC k X f m (i + 1) i
    | false => pivC k X f m (i + 1) a
theorem pivC_eq {α : Type} (k : Nat) (X : List RX) (f : Nat → α) : ∀ m i a, pivC k X f m i a = f (pivN k X m i a)
  | 0, _, _ => rfl
  | m + 1, i, a => by
    unfold pivC pivN
    cases gtM (gE X i k) (gE X a k)
    · exact pivC_eq k X f m (i + 1) a
    · exact pivC_eq k X f m (i + 1) i
theorem pivN_range (k : Nat) (X : List RX) : ∀ m i a, a < i → a ≤ pivN k X m i a ∧ pivN k X m i a < i + m
  | 0, i, a, h => ⟨Nat.le_refl _, h⟩
  | m + 1, i, a, h => by
    unfold pivN
    cases gtM (gE X i k) (gE X a k)
    · have := pivN_range k X m (i + 1) a (by omega)
      dsimp only
      omega
    · have := pivN_range k X m (i + 1) i (by omega)
      dsimp only
      omega
def atCase {α : Type} (no : α) (f : Nat → α) : Nat → Nat → Nat → α
  | 0, _, _ => no
  | m + 1, lo, a => bif Nat.beq a lo then f lo else atCase no f m (lo + 1) a
theorem atCase_eq {α : Type} (no : α) (f : Nat → α) : ∀ m lo a, lo ≤ a → a < lo + m → atCase no f m lo a = f a
  | 0, lo, a, h1, h2 => by omega
  | m + 1, lo, a, h1, h2 => by
    unfold atCase
    cases hb : Nat.beq a lo with
    | true => rw [Nat.eq_of_beq_eq_true hb]; rfl
    | false =>
      have hne : a ≠ lo := fun e => by rw [e, Nat.beq_refl] at hb; cases hb
      exact atCase_eq no f m (lo + 1) a (by omega) (by omega)
def swapX (X : List RX) (k a : Nat) : List RX := (X.set k (rx X a)).set a (rx X k)
def elimL (q : Nat) : Nat → List Nat → List Nat → List Nat
  | _, [], _ => []
  | _, rs, [] => rs
  | 0, r :: rs, p :: ps => sb r q p :: elimL q 0 rs ps
  | k + 1, r :: rs, _ :: ps => r :: elimL q k rs ps
def elimR (p : List Nat) (k : Nat) (r : RX) : RX := (r.1, elimL (fop .quo .f32 (r.2.getD k 0) (p.getD k 0)) k r.2 p)
def elimT (p : List Nat) (k : Nat) : Nat → List RX → List RX
  | _, [] => []
  | 0, r :: X => elimR p k r :: elimT p k 0 X
  | m + 1, r :: X => r :: elimT p k m X
def elimX (k : Nat) (X : List RX) : List RX := elimT (rx X k).2 k (k + 1) X
def pivX (k : Nat) (X : List RX) : List RX := swapX X k (pivN k X (X.length - k - 1) (k + 1) k)
def big0 (c : Nat) : Bool := fcmp .gtr .f32 (mag c) 897988541
def gauss : Nat → Nat → List RX → Option (List RX)
  | 0, _, X => some X
  | m + 1, k, X => match big0 (gE (pivX k X) k k) with
    | true => gauss m (k + 1) (elimX k (pivX k X))
    | false => none
def subsX : Nat → List Nat → List Nat → Nat → Nat
  | _, _, [], l => l
  | k, r, x :: o, l => subsX (k + 1) r o (sb l (r.getD k 0) x)
def backX (n : Nat) : Nat → List RX → List Nat
  | _, [] => []
  | i, r :: rs => fop .quo .f32 (subsX (i + 1) r.2 (backX n (i + 1) rs) (r.2.getD n 0)) (r.2.getD i 0) :: backX n (i + 1) rs
def Sh (n : Nat) (X : List RX) : Prop := X.length = n ∧ ∀ r ∈ X, r.2.length = n + 1
theorem rx_mem {n i : Nat} {X : List RX} (h : Sh n X) (hi : i < n) : (rx X i).2.length = n + 1 := by
  have hl : i < X.length := by rw [h.1]; exact hi
  unfold rx
  rw [List.getD_eq_getElem?_getD, List.getElem?_eq_getElem hl]
  exact h.2 _ (List.getElem_mem hl)
theorem Sh.swap {n k a : Nat} {X : List RX} (h : Sh n X) (hk : k < n) (ha : a < n) : Sh n (swapX X k a) := by
  refine ⟨by unfold swapX; rw [List.length_set, List.length_set]; exact h.1, fun r hr => ?_⟩
  unfold swapX at hr
  rcases List.mem_or_eq_of_mem_set hr with hr | hr
  · rcases List.mem_or_eq_of_mem_set hr with hr | hr
    · exact h.2 r hr
    · rw [hr]; exact rx_mem h ha
  · rw [hr]; exact rx_mem h hk
theorem elimL_len (q : Nat) : ∀ (k : Nat) (rs ps : List Nat), (elimL q k rs ps).length = rs.length
  | _, [], _ => by unfold elimL; rfl
  | k, r :: rs, [] => by cases k <;> rfl
  | 0, r :: rs, p :: ps => by unfold elimL; simp [elimL_len q 0 rs ps]
  | k + 1, r :: rs, p :: ps => by unfold elimL; simp [elimL_len q k rs ps]
theorem elimT_len (p : List Nat) (k : Nat) : ∀ (m : Nat) (X : List RX), (elimT p k m X).length = X.length
  | _, [] => by unfold elimT; rfl
  | 0, r :: X => by unfold elimT; simp [elimT_len p k 0 X]
  | m + 1, r :: X => by unfold elimT; simp [elimT_len p k m X]
theorem elimT_mem (p : List Nat) (k : Nat) : ∀ (m : Nat) (X : List RX) (r : RX), r ∈ elimT p k m X → ∃ r0 ∈ X, r.2.length = r0.2.length
  | _, [], r, h => by unfold elimT at h; cases h
  | 0, r0 :: X, r, h => by
    unfold elimT at h
    rcases List.mem_cons.1 h with h | h
    · exact ⟨r0, List.mem_cons_self, by rw [h]; exact elimL_len _ _ _ _⟩
    · obtain ⟨r1, h1, h2⟩ := elimT_mem p k 0 X r h
      exact ⟨r1, List.mem_cons_of_mem _ h1, h2⟩
  | m + 1, r0 :: X, r, h => by
    unfold elimT at h
    rcases List.mem_cons.1 h with h | h
    · exact ⟨r0, List.mem_cons_self, by rw [h]⟩
    · obtain ⟨r1, h1, h2⟩ := elimT_mem p k m X r h
      exact ⟨r1, List.mem_cons_of_mem _ h1, h2⟩
theorem Sh.elim {n k : Nat} {X : List RX} (h : Sh n X) : Sh n (elimX k X) :=
  ⟨(elimT_len _ _ _ _).trans h.1, fun r hr => by obtain ⟨r0, h1, h2⟩ := elimT_mem _ _ _ _ r hr; exact h2.trans (h.2 r0 h1)⟩
theorem Sh.piv {n k : Nat} {X : List RX} (h : Sh n X) (hk : k < n) : Sh n (pivX k X) := by
  have := pivN_range k X (X.length - k - 1) (k + 1) k (by omega)
  have hl := h.1
  exact h.swap hk (by omega)
theorem Sh.gauss {n : Nat} : ∀ {m k : Nat} {X Y : List RX}, Sh n X → k + m = n → gauss m k X = some Y → Sh n Y
  | 0, k, X, Y, h, _, he => by cases he; exact h
  | m + 1, k, X, Y, h, hk, he => by
    unfold Go.Sm.gauss at he
    cases hb : big0 (gE (pivX k X) k k) with
    | false => rw [hb] at he; cases he
    | true => rw [hb] at he; exact Sh.gauss (h.piv (by omega)).elim (by omega) he
theorem backX_len (n : Nat) : ∀ (i : Nat) (X : List RX), (backX n i X).length = X.length
  | _, [] => rfl
  | i, r :: X => by unfold backX; simp [backX_len n (i + 1) X]
def er (X : List RX) : List RX := X.map fun r => (0, r.2)
theorem rx_er (X : List RX) (i : Nat) : (rx (er X) i).2 = (rx X i).2 := by
  unfold rx er
  rw [List.getD_eq_getElem?_getD, List.getD_eq_getElem?_getD, List.getElem?_map]
  cases X[i]? <;> rfl
theorem gE_er (X : List RX) (i j : Nat) : gE (er X) i j = gE X i j := by unfold gE; rw [rx_er]
theorem pivN_er (k : Nat) (X : List RX) : ∀ m i a, pivN k (er X) m i a = pivN k X m i a
  | 0, _, _ => rfl
  | m + 1, i, a => by
    unfold pivN
    rw [gE_er, gE_er]
    cases gtM (gE X i k) (gE X a k)
    · exact pivN_er k X m (i + 1) a
    · exact pivN_er k X m (i + 1) i
theorem rx_pair (X : List RX) (i : Nat) : rx (er X) i = (0, (rx X i).2) := by
  unfold rx er
  rw [List.getD_eq_getElem?_getD, List.getD_eq_getElem?_getD, List.getElem?_map]
  cases X[i]? <;> rfl
theorem swapX_er (X : List RX) (k a : Nat) : swapX (er X) k a = er (swapX X k a) := by
  unfold swapX
  rw [rx_pair, rx_pair]
  unfold er
  rw [List.map_set, List.map_set]
theorem elimT_er (p : List Nat) (k : Nat) : ∀ (m : Nat) (X : List RX), elimT p k m (er X) = er (elimT p k m X)
  | _, [] => by simp [er, elimT]
  | 0, r :: X => by
    have h := elimT_er p k 0 X
    unfold er at h ⊢
    rw [List.map_cons]
    unfold elimT
    rw [List.map_cons, h]
    rfl
  | m + 1, r :: X => by
    have h := elimT_er p k m X
    unfold er at h ⊢
    rw [List.map_cons]
    unfold elimT
    rw [List.map_cons, h]
theorem gauss_er : ∀ (m k : Nat) (X : List RX), gauss m k (er X) = (gauss m k X).map er
  | 0, k, X => rfl
  | m + 1, k, X => by
    have hp : pivX k (er X) = er (pivX k X) := by
      unfold pivX
      rw [pivN_er, swapX_er]
      congr 3
      simp [er]
    unfold gauss
    rw [hp, gE_er]
    cases big0 (gE (pivX k X) k k) with
    | false => rfl
    | true =>
      have he : elimX k (er (pivX k X)) = er (elimX k (pivX k X)) := by
        unfold elimX
        rw [rx_er, elimT_er]
      dsimp only
      rw [he]
      exact gauss_er m (k + 1) _
theorem backX_er (n : Nat) : ∀ (i : Nat) (X : List RX), backX n i (er X) = backX n i X
  | _, [] => rfl
  | i, r :: X => by
    have h := backX_er n (i + 1) X
    unfold er at h ⊢
    rw [List.map_cons]
    unfold backX
    rw [h]
def solveL (xss : List (List Nat)) : Option (List Nat) := match gauss xss.length 0 (xss.map fun x => (0, x)) with
  | some Y => some (backX xss.length 0 Y)
  | none => none
def sqOk (xss : List (List Nat)) : Bool := Nat.ble 1 xss.length && (Nat.ble xss.length 6 && xss.all fun x => Nat.beq x.length (xss.length + 1))
def zipE (es : List Nat) (xss : List (List Nat)) : List RX := List.zipWith (fun e x => (e, x)) es xss
theorem zip_er : ∀ (es : List Nat) (xss : List (List Nat)), es.length = xss.length → er (zipE es xss) = xss.map fun x => (0, x)
  | [], [], _ => rfl
  | e :: es, x :: xss, h => by
    have := zip_er es xss (by simpa using h)
    unfold er zipE at this ⊢
    simp only [List.zipWith_cons_cons, List.map_cons, this]
  | [], _ :: _, h => by simp at h
  | _ :: _, [], h => by simp at h
theorem zip_len (es : List Nat) (xss : List (List Nat)) (h : es.length = xss.length) : (zipE es xss).length = xss.length := by
  unfold zipE
  rw [List.length_zipWith, h, Nat.min_self]
theorem zip_sh {n : Nat} (es : List Nat) (xss : List (List Nat)) (h : es.length = xss.length) (hn : xss.length = n) (hs : sqOk xss = true) : Sh n (zipE es xss) := by
  refine ⟨(zip_len es xss h).trans hn, fun r hr => ?_⟩
  unfold zipE at hr
  obtain ⟨i, hi⟩ := List.getElem?_of_mem hr
  rw [List.getElem?_zipWith] at hi
  unfold sqOk at hs
  rw [Bool.and_eq_true, Bool.and_eq_true, List.all_eq_true] at hs
  cases he : es[i]? with
  | none => rw [he] at hi; simp at hi
  | some e =>
    cases hx : xss[i]? with
    | none => rw [he, hx] at hi; simp at hi
    | some x =>
      rw [he, hx] at hi
      simp at hi
      subst hi
      rw [← hn]
      exact Nat.eq_of_beq_eq_true (hs.2.2 x (List.mem_of_getElem? hx))
theorem solve_es (es : List Nat) (xss : List (List Nat)) (h : es.length = xss.length) : solveL xss = match gauss xss.length 0 (zipE es xss) with
    | some Y => some (backX xss.length 0 Y)
    | none => none := by
  unfold solveL
  rw [← zip_er es xss h, gauss_er]
  cases gauss xss.length 0 (zipE es xss) with
  | none => rfl
  | some Y => rw [Option.map_some]; dsimp only; rw [backX_er]
def rowsH (X : List RX) : Hp := none :: X.map fun r => some ⟨r.1, ⟨.f32, r.2⟩⟩
def rowsBack : Hp → Option (List RX)
  | [] => some []
  | some ⟨e, ⟨.f32, x⟩⟩ :: H => (match rowsBack H with
    | some X => some ((e, x) :: X)
    | none => none)
  | _ :: _ => none
def eqP : List (Option Nat) → List (Option Nat) → Bool
  | [], [] => true
  | some a :: l, some b :: m => Nat.beq a b && eqP l m
  | _, _ => false
theorem eqP_ok : ∀ {l m : List (Option Nat)}, eqP l m = true → l = m
  | [], [], _ => rfl
  | some a :: l, some b :: m, h => by
    unfold eqP at h
    rw [Bool.and_eq_true] at h
    rw [Nat.eq_of_beq_eq_true h.1, eqP_ok h.2]
  | [], _ :: _, h => by cases h
  | none :: _, [], h => by cases h
  | some _ :: _, [], h => by cases h
  | none :: _, _ :: _, h => by cases h
  | some _ :: _, none :: _, h => by cases h
theorem rowsBack_ok : ∀ {H : Hp} {X : List RX}, rowsBack H = some X → H = X.map fun r => some ⟨r.1, ⟨.f32, r.2⟩⟩
  | [], X, h => by cases h; rfl
  | x :: H, X, h => by
    unfold rowsBack at h
    split at h
    · rename_i heq; cases heq
    · rename_i e x' H' heq
      cases heq
      split at h
      · rename_i X' hX
        cases h
        rw [rowsBack_ok hX]
        rfl
      · cases h
    · cases h
def shB (n : Nat) (X : List RX) : Bool := Nat.beq X.length n && X.all fun r => Nat.beq r.2.length (n + 1)
theorem shB_ok {n : Nat} {X : List RX} (h : shB n X = true) : Sh n X := by
  unfold shB at h
  rw [Bool.and_eq_true, List.all_eq_true] at h
  exact ⟨Nat.eq_of_beq_eq_true h.1, fun r hr => Nat.eq_of_beq_eq_true (h.2 r hr)⟩
def cuOf (T : TT) (A : Ann) (fn : Func) (i : Nat) : St → Option Nat → (Ex → St → Option Nat → R) → R := codeU T A noL noG fn.ntmps 9 (loopAt fn i)
def atCase2 {α : Type} (no : α) (f : Nat → α) : Nat → Nat → Nat → α
  | 0, _, _ => no
  | m + 1, lo, a => bif Nat.beq a lo then f lo else atCase2 no f m (lo + 1) a
theorem atCase2_eq {α : Type} (no : α) (f : Nat → α) : ∀ m lo a, lo ≤ a → a < lo + m → atCase2 no f m lo a = f a
  | 0, lo, a, h1, h2 => by omega
  | m + 1, lo, a, h1, h2 => by
    unfold atCase2
    cases hb : Nat.beq a lo with
    | true => rw [Nat.eq_of_beq_eq_true hb]; rfl
    | false =>
      have hne : a ≠ lo := fun e => by rw [e, Nat.beq_refl] at hb; cases hb
      exact atCase2_eq no f m (lo + 1) a (by omega) (by omega)
theorem lst2 {l : List Nat} (h : l.length = 2) : ∃ a0 a1, l = [a0, a1] := by
  match l, h with
  | [a0, a1], _ => exact ⟨a0, a1, rfl⟩
theorem lst3 {l : List Nat} (h : l.length = 3) : ∃ a0 a1 a2, l = [a0, a1, a2] := by
  match l, h with
  | [a0, a1, a2], _ => exact ⟨a0, a1, a2, rfl⟩
theorem lst4 {l : List Nat} (h : l.length = 4) : ∃ a0 a1 a2 a3, l = [a0, a1, a2, a3] := by
  match l, h with
  | [a0, a1, a2, a3], _ => exact ⟨a0, a1, a2, a3, rfl⟩
theorem sh1 {X : List RX} (h : Sh 1 X) : ∃ e0 a00 a01 : Nat, X = [(e0, [a00, a01])] := by
  match X, h with
  | [(e0, x0)], h =>
    obtain ⟨a00, a01, hx0⟩ := lst2 (h.2 (e0, x0) (by simp))
    exact ⟨e0, a00, a01, by dsimp only at hx0; rw [hx0]⟩
theorem sh2 {X : List RX} (h : Sh 2 X) : ∃ e0 e1 a00 a01 a02 a10 a11 a12 : Nat, X = [(e0, [a00, a01, a02]), (e1, [a10, a11, a12])] := by
  match X, h with
  | [(e0, x0), (e1, x1)], h =>
    obtain ⟨a00, a01, a02, hx0⟩ := lst3 (h.2 (e0, x0) (by simp))
    obtain ⟨a10, a11, a12, hx1⟩ := lst3 (h.2 (e1, x1) (by simp))
    exact ⟨e0, e1, a00, a01, a02, a10, a11, a12, by dsimp only at hx0 hx1; rw [hx0, hx1]⟩
theorem sh3 {X : List RX} (h : Sh 3 X) : ∃ e0 e1 e2 a00 a01 a02 a03 a10 a11 a12 a13 a20 a21 a22 a23 : Nat, X = [(e0, [a00, a01, a02, a03]), (e1, [a10, a11, a12, a13]), (e2, [a20, a21, a22, a23])] := by
  match X, h with
  | [(e0, x0), (e1, x1), (e2, x2)], h =>
    obtain ⟨a00, a01, a02, a03, hx0⟩ := lst4 (h.2 (e0, x0) (by simp))
    obtain ⟨a10, a11, a12, a13, hx1⟩ := lst4 (h.2 (e1, x1) (by simp))
    obtain ⟨a20, a21, a22, a23, hx2⟩ := lst4 (h.2 (e2, x2) (by simp))
    exact ⟨e0, e1, e2, a00, a01, a02, a03, a10, a11, a12, a13, a20, a21, a22, a23, by dsimp only at hx0 hx1 hx2; rw [hx0, hx1, hx2]⟩
section
variable {T : TT} {A : Ann} {nt fuel : Nat}
theorem loopsNoL : ∀ c : Code, LoopsOk T A noL nt c
  | .seq a b => ⟨loopsNoL a, loopsNoL b⟩
  | .cond _ a b => ⟨loopsNoL a, loopsNoL b⟩
  | .block _ a => loopsNoL a
  | .loop a => ⟨(fun _ _ _ _ _ _ h => by cases h), loopsNoL a⟩
  | .skip => trivial
  | .region .. => trivial
  | .ret => trivial
  | .exit _ => trivial
  | .rangeFunc .. => trivial
  | .scope _ => trivial
  | .label _ => trivial
  | .goto _ => trivial
  | .refuse _ => trivial
def LU (T : TT) (A : Ann) (nt fuel : Nat) (b : Code) : Prop := ∀ ins outs F, A.lp (firstRegion b) = some (ins, outs) → A.lm (firstRegion b) = some F → ∀ s M k out, F s M k = some out → ∃ n, iterN A ins outs (codeU T A noL noG nt fuel b) n s M k = some out
theorem loopsU_all : ∀ {c : Code}, (∀ b ∈ loopBodies c, LU T A nt fuel b) → LoopsU T A noL noG nt fuel c
  | .seq a b, h => ⟨loopsU_all fun x hx => h x (List.mem_append_left _ hx), loopsU_all fun x hx => h x (List.mem_append_right _ hx)⟩
  | .cond _ a b, h => ⟨loopsU_all fun x hx => h x (List.mem_append_left _ hx), loopsU_all fun x hx => h x (List.mem_append_right _ hx)⟩
  | .block _ a, h => loopsU_all (c := a) h
  | .loop a, h => ⟨⟨fun _ => loopsNoL _, loopsU_all fun x hx => h x (List.mem_cons_of_mem _ hx)⟩, h a List.mem_cons_self⟩
  | .skip, _ => trivial
  | .region .., _ => trivial
  | .ret, _ => trivial
  | .exit _, _ => trivial
  | .rangeFunc .., _ => trivial
  | .scope _, _ => trivial
  | .label _, _ => trivial
  | .goto _, _ => trivial
  | .refuse _, _ => trivial
theorem LU.none {b : Code} (h : (A.lp (firstRegion b)).isNone = true) : LU T A nt fuel b := fun ins outs F h1 => by
  rw [h1] at h
  cases h
theorem loopsU6 {fn : Func} (h : nLoops fn = 6) (h0 : LU T A nt fuel (loopAt fn 0)) (h1 : LU T A nt fuel (loopAt fn 1)) (h2 : LU T A nt fuel (loopAt fn 2)) (h3 : LU T A nt fuel (loopAt fn 3)) (h4 : LU T A nt fuel (loopAt fn 4)) (h5 : LU T A nt fuel (loopAt fn 5)) :
    LoopsU T A noL noG nt fuel (bodyOf fn) := loopsU_all fun b hb => by
  unfold nLoops at h
  unfold loopAt at h0 h1 h2 h3 h4 h5
  match hl : loopBodies (bodyOf fn), h with
  | [a, b0, c, d, e, f], _ =>
    rw [hl] at hb h0 h1 h2 h3 h4 h5
    simp only [List.mem_cons, List.not_mem_nil, or_false] at hb
    rcases hb with rfl | rfl | rfl | rfl | rfl | rfl
    · exact h0
    · exact h1
    · exact h2
    · exact h3
    · exact h4
    · exact h5
end
def rest3 : Code → Code
  | .seq _ (.seq _ (.seq _ c)) => c
  | c => c
theorem rowsX_zip : ∀ (es : List Nat) (X : List (List Nat)), rowsX es X = rowsH (zipE es X) := by
  intro es X
  unfold rowsX rowsH zipE
  rw [List.map_zipWith]
end Go.Sm
namespace Go.Sm
open Go
def atF (l : LineV) (b d : Nat) (i : Nat) (zs : List Nat) : Option (List Nat) := bif lineOk l (placeAt b d (i : Int)) then some (zs ++ [lineV l (placeAt b d (i : Int))]) else none
def atRow (l : LineV) (b d n : Nat) : Option (List Nat) := repE (atF l b d) n 0 []
def rowsFit (f : List (List Nat)) (ys : List Nat) : Bool := Nat.ble ys.length 128 && (Nat.ble f.length 6 && f.all fun a => Nat.beq a.length ys.length)
theorem rep_len {α : Type} {f : Nat → List α → List α} (h : ∀ j zs, (f j zs).length = zs.length) : ∀ (m j : Nat) (zs : List α), (rep f m j zs).length = zs.length
  | 0, _, _ => rfl
  | m + 1, j, zs => by rw [rep_succ, rep_len h m, h]
theorem gram_len (f : List (List Nat)) (ys : List Nat) : (gram f ys).length = f.length := by simp [gram]
theorem gramR_len (f : List (List Nat)) (ys a : List Nat) : (gramR f ys a).length = f.length + 1 := by simp [gramR]
theorem solveL_len {X : List (List Nat)} {l : List Nat} (h : solveL X = some l) (hs : sqOk X = true) : l.length = X.length := by
  unfold solveL at h
  split at h
  · rename_i Y hg
    cases h
    rw [backX_len]
    unfold sqOk at hs
    rw [Bool.and_eq_true, Bool.and_eq_true] at hs
    have hX : Sh X.length (X.map fun x => ((0 : Nat), x)) := ⟨by simp, fun r hr => by
      obtain ⟨x, hx, rfl⟩ := List.mem_map.1 hr
      exact Nat.eq_of_beq_eq_true (List.all_eq_true.1 hs.2.2 x hx)⟩
    exact (hX.gauss (by omega) hg).1
  · cases h
def fits1 (a : List Nat) (bs : List (List Nat)) : Bool := Nat.ble a.length big && bs.all fun b => Nat.ble a.length b.length
def fitsA (as bs : List (List Nat)) : Bool := as.all fun a => fits1 a bs
theorem fits1_big {a : List Nat} {bs : List (List Nat)} (h : fits1 a bs = true) : Nat.ble a.length big = true := by
  unfold fits1 at h
  rw [Bool.and_eq_true] at h
  exact h.1
theorem fits1_get {a : List Nat} {bs : List (List Nat)} {j : Nat} (h : fits1 a bs = true) (hj : j < bs.length) : Nat.ble a.length (bs.getD j []).length = true := by
  unfold fits1 at h
  rw [Bool.and_eq_true] at h
  have := List.all_eq_true.1 h.2 bs[j] (List.getElem_mem hj)
  simpa [List.getD, hj] using this
theorem fits1_left {a c : List Nat} {bs : List (List Nat)} (h : fits1 a (bs ++ [c]) = true) : fits1 a bs = true ∧ Nat.ble a.length c.length = true := by
  unfold fits1 at h ⊢
  simp only [List.all_append, List.all_cons, List.all_nil, Bool.and_true, Bool.and_eq_true] at h
  exact ⟨by rw [h.1, h.2.1]; rfl, h.2.2⟩
theorem fitsA_get {as bs : List (List Nat)} {j : Nat} (h : fitsA as bs = true) (hj : j < as.length) : fits1 (as.getD j []) bs = true := by
  have := List.all_eq_true.1 h as[j] (List.getElem_mem hj)
  simpa [List.getD, hj] using this
theorem rowsFit_A {f : List (List Nat)} {ys : List Nat} (h : rowsFit f ys = true) : f.length ≤ 6 ∧ fitsA f (f ++ [ys]) = true := by
  unfold rowsFit at h
  simp only [Bool.and_eq_true, List.all_eq_true] at h
  obtain ⟨h1, h2, h3⟩ := h
  have h1' := Nat.le_of_ble_eq_true h1
  refine ⟨Nat.le_of_ble_eq_true h2, ?_⟩
  unfold fitsA fits1
  simp only [List.all_eq_true, Bool.and_eq_true]
  intro a ha
  have ha' := Nat.eq_of_beq_eq_true (h3 a ha)
  refine ⟨big_of (by omega), fun b hb => Nat.ble_eq_true_of_le ?_⟩
  rcases List.mem_append.1 hb with hb | hb
  · have := Nat.eq_of_beq_eq_true (h3 b hb)
    omega
  · rw [List.mem_singleton.1 hb]
    omega
theorem rep_each {α β : Type} (d : α) (f : α → β) (xs : List α) : ∀ (m j : Nat) (zs : List β), j + m = xs.length → rep (fun j zs => zs ++ [f (xs.getD j d)]) m j zs = zs ++ (xs.drop j).map f
  | 0, j, zs, h => by
    rw [List.drop_of_length_le (by omega)]
    simp [rep]
  | m + 1, j, zs, h => by
    have hlt : j < xs.length := by omega
    have e : xs.getD j d = xs[j] := by simp [List.getD, hlt]
    rw [rep_succ, rep_each d f xs m (j + 1) _ (by omega), List.drop_eq_getElem_cons hlt, List.map_cons, List.append_assoc, e]
    rfl
theorem gramR_run (f : List (List Nat)) (ys a : List Nat) : rep (fun j rs => rs ++ [dotP a ((f ++ [ys]).getD j [])]) (f ++ [ys]).length 0 [] = gramR f ys a := by
  rw [rep_each [] (dotP a) (f ++ [ys]) _ 0 [] (by omega)]
  rfl
theorem gramR_run2 (f : List (List Nat)) (ys a : List Nat) : rep (fun j rs => rs ++ [dotP a (f.getD j [])]) f.length 0 [] ++ [dotP a ys] = gramR f ys a := by
  rw [rep_each [] (dotP a) f _ 0 [] (by omega)]
  simp [gramR]
theorem gram_run (f : List (List Nat)) (ys : List Nat) : rep (fun j gs => gs ++ [gramR f ys (f.getD j [])]) f.length 0 [] = gram f ys := by
  rw [rep_each [] (gramR f ys) f _ 0 [] (by omega)]
  rfl
end Go.Sm
namespace Go.Sm
open Go Ieee
theorem fv_natAbs (k : FloatKind) (w : Nat) : (fv k w).natAbs = rv k.format (w % k.format.signWeight) := by
  unfold fv
  split <;> simp
theorem rv_one_le {f : Format} {q : Nat} (h : 1 ≤ q) : 1 ≤ rv f q := by
  have := rv_lt (f := f) (show 0 < q by omega)
  rw [rv_zero] at this
  omega
theorem fop_add_sgn {k : FloatKind} {x y : Nat} (hx : isNum k x = true) (hy : isNum k y = true) (h : fv k x + fv k y = 0) : fop .add k x y = k.format.word (sgn k x && sgn k y) 0 := by
  obtain ⟨m, e, h1, _⟩ := isNum_spell hx
  obtain ⟨n, e', h3, _⟩ := isNum_spell hy
  have hb : ∃ b : Nat, min (k.format.leastPlace + (e : Int)) (k.format.leastPlace + (e' : Int)) = k.format.leastPlace + (b : Int) ∧ b ≤ e ∧ b ≤ e' := ⟨min e e', by omega, Nat.min_le_left _ _, Nat.min_le_right _ _⟩
  obtain ⟨b, hb1, hb2, hb3⟩ := hb
  have q1 : (k.format.leastPlace + (e : Int) - (k.format.leastPlace + (b : Int))).toNat = e - b := by omega
  have q2 : (k.format.leastPlace + (e' : Int) - (k.format.leastPlace + (b : Int))).toNat = e' - b := by omega
  have v1 : fv k x = signed (sgn k x) m (e - b) * 2 ^ b := by
    rw [fv_read h1, ← signed_mul]
    congr 1
    omega
  have v2 : fv k y = signed (sgn k y) n (e' - b) * 2 ^ b := by
    rw [fv_read h3, ← signed_mul]
    congr 1
    omega
  have hr : floatBits .add k x y = some (k.format.nearest (if signed (sgn k x) m (e - b) + signed (sgn k y) n (e' - b) = 0 then sgn k x && sgn k y else decide (signed (sgn k x) m (e - b) + signed (sgn k y) n (e' - b) < 0)) (signed (sgn k x) m (e - b) + signed (sgn k y) n (e' - b)).natAbs (k.format.leastPlace + (b : Int))) := by
    show k.format.add x y = _
    unfold Format.add
    rw [h1, h3]
    simp only [Datum.sum, hb1, q1, q2, Option.map_some, Format.write]
  rw [fop_some hr, nearest_eq]
  have hsum : fv k x + fv k y = (signed (sgn k x) m (e - b) + signed (sgn k y) n (e' - b)) * 2 ^ b := by rw [v1, v2, Int.add_mul]
  generalize signed (sgn k x) m (e - b) + signed (sgn k y) n (e' - b) = S at hsum ⊢
  have hp : (0 : Int) < 2 ^ b := Int.pow_pos (by decide)
  have hS : S = 0 := by
    rw [h] at hsum
    rcases Int.mul_eq_zero.1 hsum.symm with h | h
    · exact h
    · omega
  subst hS
  rw [if_pos rfl]
  have hq : nrung k.format (0 : Int).natAbs (k.format.leastPlace + (b : Int)) ≤ 0 := nrung_le (k1 := b) (k2 := 0) (by omega) (by simp [rv_zero])
  rw [Nat.le_zero.1 hq]
theorem inf_lt_sw (k : FloatKind) : k.format.infRung < k.format.signWeight := k.format.infRung_lt
theorem add_same {k : FloatKind} {s p : Nat} (hs : isNum k s = true) (hp : isNum k p = true) (h : fv k p = 0) (h0 : fv k s ≠ 0) : fop .add k s p = k.format.word (decide (fv k s < 0)) (s % k.format.signWeight) := by
  obtain ⟨t, q, e, hq, n1, n2, n3, n4⟩ := fop_add hs hp
  rw [h, Int.add_zero] at n1 n2 n3 n4
  have hl := isNum_lt hs
  have e1 : q ≤ s % k.format.signWeight := n3 _ (Nat.le_of_eq (fv_natAbs k s))
  have e2 : s % k.format.signWeight ≤ q := n4 _ (Nat.le_of_lt hl) (Nat.le_of_eq (fv_natAbs k s).symm)
  have e3 : q = s % k.format.signWeight := Nat.le_antisymm e1 e2
  have e4 : t = decide (fv k s < 0) := by
    rcases Int.lt_or_le (fv k s) 0 with h1 | h1
    · rw [n1 h1, decide_eq_true h1]
    · rw [n2 (by omega), decide_eq_false (by omega)]
  rw [e, e3, e4]
theorem zero_add_fv {v : Nat} (hv : fin v = true) : fin (fop .add .f32 0 v) = true ∧ fv .f32 (fop .add .f32 0 v) = fv .f32 v := by
  have n0 : isNum .f32 0 = true := by decide +kernel
  have z0 : fv .f32 0 = 0 := by decide +kernel
  have nv : isNum .f32 v = true := by rw [← fin_isNum]; exact hv
  by_cases h : fv .f32 v = 0
  · rw [fop_add_sgn n0 nv (by rw [z0, h]; rfl), fin_isNum]
    refine ⟨word_isNum _ (by decide), ?_⟩
    rw [fv_word _ (by decide), rv_zero, h]
    split <;> rfl
  · rw [fop_add_comm, add_same nv n0 z0 h, fin_isNum]
    have hl := isNum_lt nv
    refine ⟨word_isNum _ hl, ?_⟩
    rw [fv_word _ (Nat.lt_trans hl (inf_lt_sw .f32))]
    have hn := fv_natAbs .f32 v
    by_cases h1 : fv .f32 v < 0
    · rw [decide_eq_true h1, if_pos rfl]
      omega
    · rw [decide_eq_false h1, if_neg (by decide)]
      omega
def ns (s : Nat) : Prop := isNum .f32 s = true → fv .f32 s = 0 → sgn .f32 s = false
theorem fop_readL {k : FloatKind} {x y z : Nat} (h : k.format.read y = k.format.read z) : fop .mul k y x = fop .mul k z x := by
  unfold fop
  have : floatBits .mul k y x = floatBits .mul k z x := by
    show k.format.mul y x = k.format.mul z x
    unfold Format.mul
    rw [h]
  rw [this]
theorem lines_one (u : LineV) (x : Nat) : linesAtOk [u] x = lineOk u x := by
  have h1 : linesSum [u] x = fop .add .f32 0 (lineV u x) := rfl
  have h2 : linesOk [u] = okLine u := by simp [linesOk]
  have h3 : fin (fop .add .f32 0 (lineV u x)) = fin (lineV u x) := by
    cases h : fin (lineV u x) with
    | true => exact (zero_add_fv h).1
    | false =>
      cases h4 : fin (fop .add .f32 0 (lineV u x)) with
      | false => rfl
      | true =>
        have := (fin_add h4).2
        rw [h] at this
        cases this
  unfold linesAtOk lineOk
  rw [h1, h2, h3]
def rowAll (u : LineV) (b d n : Nat) : Bool := (fromTo 0 n).all fun (j : Nat) => lineOk u (placeAt b d (j : Int))
def rowV (u : LineV) (b d n : Nat) : List Nat := (fromTo 0 n).map fun (j : Nat) => lineV u (placeAt b d (j : Int))
theorem atRow_eq (u : LineV) (b d n : Nat) : atRow u b d n = bif rowAll u b d n then some (rowV u b d n) else none := by
  unfold atRow
  have : atF u b d = fun (i : Nat) (zs : List Nat) => bif lineOk u (placeAt b d (i : Int)) then some (zs ++ [lineV u (placeAt b d (i : Int))]) else none := rfl
  rw [this, repE_gen (fun (j : Nat) => lineOk u (placeAt b d (j : Int))) (fun (j : Nat) zs => zs ++ [lineV u (placeAt b d (j : Int))]), rep_map, List.nil_append]
  rfl
theorem spAll_one (u : LineV) (b d n : Nat) : spAll [u] b d n = rowAll u b d n := by
  unfold spAll rowAll
  congr 1
  funext j
  exact lines_one u _
end Go.Sm
namespace Go.Sm
open Go Ieee
def smallW (w : Nat) : Nat := fop .mul .f32 w 1015021568
def alts (l : LineV) : List LineV := [⟨fop .add .f32 l.p (smallW l.w), l.h, l.w, l.k⟩, ⟨l.p, fop .add .f32 l.h 1015021568, l.w, l.k⟩, ⟨l.p, l.h, fop .mul .f32 l.w 1065484288, l.k⟩]
def byS (l : LineV) : List Nat := [smallW l.w, 1015021568, smallW l.w]
def divF (now : List Nat) (s : Nat) (j : Nat) (zs : List Nat) : List Nat := zs.set j (fop .quo .f32 (fop .sub .f32 (zs.getD j 0) (now.getD j 0)) s)
def divR (now : List Nat) (s : Nat) (zs : List Nat) : List Nat := rep (divF now s) now.length 0 zs
def chF (us : List LineV) (ss : List Nat) (b d n : Nat) (now : List Nat) (j : Nat) (gs : List (List Nat)) : Option (List (List Nat)) :=
  bif rowAll (us.getD j noLine) b d n then some (gs ++ [divR now (ss.getD j 0) (rowV (us.getD j noLine) b d n)]) else none
def subF (ys now : List Nat) (j : Nat) (rs : List Nat) : List Nat := rs ++ [fop .sub .f32 (ys.getD j 0) (now.getD j 0)]
def subR (ys now : List Nat) : List Nat := rep (subF ys now) ys.length 0 []
def dgR (i : Nat) (x : List Nat) : List Nat := x.set i (fop .mul .f32 (x.getD i 0) 1065615360)
def diagX : Nat → List (List Nat) → List (List Nat)
  | _, [] => []
  | i, x :: X => dgR i x :: diagX (i + 1) X
def sq3 (X : List (List Nat)) : Bool := Nat.beq X.length 3 && X.all fun x => Nat.beq x.length 4
theorem sq3_lit {X : List (List Nat)} (h : sq3 X = true) : ∃ a0 a1 a2 a3 b0 b1 b2 b3 c0 c1 c2 c3 : Nat, X = [[a0, a1, a2, a3], [b0, b1, b2, b3], [c0, c1, c2, c3]] := by
  unfold sq3 at h
  rw [Bool.and_eq_true, List.all_eq_true] at h
  have hl := Nat.eq_of_beq_eq_true h.1
  match X, hl, h.2 with
  | [x, y, z], _, h2 =>
    obtain ⟨a0, a1, a2, a3, rfl⟩ := lst4 (Nat.eq_of_beq_eq_true (h2 x (by simp)))
    obtain ⟨b0, b1, b2, b3, rfl⟩ := lst4 (Nat.eq_of_beq_eq_true (h2 y (by simp)))
    obtain ⟨c0, c1, c2, c3, rfl⟩ := lst4 (Nat.eq_of_beq_eq_true (h2 z (by simp)))
    exact ⟨a0, a1, a2, a3, b0, b1, b2, b3, c0, c1, c2, c3, rfl⟩
def chL (l : LineV) (ys : List Nat) (b d : Nat) : Option (List Nat) := bif rowAll l b d ys.length then (match repE (chF (alts l) (byS l) b d ys.length (rowV l b d ys.length)) 3 0 [] with
    | some gs => solveL (diagX 0 (gram gs (subR ys (rowV l b d ys.length))))
    | none => none) else none
def chOk (l : LineV) (ys : List Nat) (b d : Nat) : Bool := (chL l ys b d).isSome
def chX (l : LineV) (ys : List Nat) (b d : Nat) : List Nat := (chL l ys b d).getD []
def rowF (u l : LineV) (s b d : Nat) (i : Nat) (rs : List Nat) : List Nat := rs ++ [fop .quo .f32 (fop .sub .f32 (lineV u (placeAt b d (i : Int))) (lineV l (placeAt b d (i : Int)))) s]
def rowS (u l : LineV) (s b d n : Nat) : List Nat := rep (rowF u l s b d) n 0 []
def rowsF (us : List LineV) (ss : List Nat) (l : LineV) (b d n : Nat) (j : Nat) (gs : List (List Nat)) : List (List Nat) := gs ++ [rowS (us.getD j noLine) l (ss.getD j 0) b d n]
def restF (ys : List Nat) (l : LineV) (b d : Nat) (i : Nat) (rs : List Nat) : List Nat := rs ++ [fop .sub .f32 (ys.getD i 0) (lineV l (placeAt b d (i : Int)))]
def chS (l : LineV) (ys : List Nat) (b d : Nat) : Option (List Nat) := solveL (diagX 0 (gram (rep (rowsF (alts l) (byS l) l b d ys.length) 3 0 []) (rep (restF ys l b d) ys.length 0 [])))
def nextL (l : LineV) (c : List Nat) : LineV := ⟨fop .add .f32 l.p (c.getD 0 0), fop .add .f32 l.h (c.getD 1 0), fop .add .f32 l.w (c.getD 2 0), l.k⟩
def fitRun (step : LineV → Nat → Option (Option (LineV × Nat))) : Nat → LineV → Nat → Option (LineV × Nat)
  | 0, l, r => some (l, r)
  | m + 1, l, r => match step l r with
    | none => none
    | some none => some (l, r)
    | some (some s) => fitRun step m s.1 s.2
theorem fitRun_succ (step : LineV → Nat → Option (Option (LineV × Nat))) (m : Nat) (l : LineV) (r : Nat) : fitRun step (m + 1) l r = match step l r with
    | none => none
    | some none => some (l, r)
    | some (some s) => fitRun step m s.1 s.2 := rfl
def stepI (ys : List Nat) (b d : Nat) (l : LineV) (r : Nat) : Option (Option (LineV × Nat)) := match chL l ys b d with
  | none => none
  | some c => bif restOk [nextL l c] ys b d && fcmp .lss .f32 (restSum [nextL l c] ys b d) r then some (some (nextL l c, restSum [nextL l c] ys b d)) else some none
def stepS (ys : List Nat) (b d : Nat) (l : LineV) (r : Nat) : Option (Option (LineV × Nat)) := match chS l ys b d with
  | none => none
  | some c => bif okLine (nextL l c) && (spAll [nextL l c] b d ys.length && (fin (restSum [nextL l c] ys b d) && !fcmp .geq .f32 (restSum [nextL l c] ys b d) r)) then some (some (nextL l c, restSum [nextL l c] ys b d)) else some none
def flIn (l : LineV) (ys : List Nat) (b d : Nat) (n : Int) : Bool := okLine l && (listOk ys 3 && (fin b && (fin d && within n 1 16))) && restOk [l] ys b d
def flI (l : LineV) (ys : List Nat) (b d : Nat) (n : Int) : Option (LineV × Nat) := bif flIn l ys b d n then fitRun (stepI ys b d) n.toNat l (restSum [l] ys b d) else none
def flS (l : LineV) (ys : List Nat) (b d : Nat) (n : Int) : Option (LineV × Nat) := bif flIn l ys b d n then fitRun (stepS ys b d) n.toNat l (restSum [l] ys b d) else none
theorem subR_len (ys now : List Nat) : (subR ys now).length = ys.length := by
  have : ∀ (m j : Nat) (zs : List Nat), (rep (subF ys now) m j zs).length = zs.length + m := by
    intro m
    induction m with
    | zero => intro j zs; rfl
    | succ m ih => intro j zs; rw [rep_succ, ih]; simp [subF]; omega
  unfold subR
  rw [this]
  simp
theorem divR_len (now : List Nat) (s : Nat) (zs : List Nat) : (divR now s zs).length = zs.length := rep_len (fun j zs => by simp [divF]) _ _ _
theorem rowV_len (u : LineV) (b d n : Nat) : (rowV u b d n).length = n := by simp [rowV, fromTo_len]
theorem chF_rows {us : List LineV} {ss now : List Nat} {b d n : Nat} : ∀ (m j : Nat) (gs0 gs : List (List Nat)), repE (chF us ss b d n now) m j gs0 = some gs → (∀ a ∈ gs0, a.length = n) → gs.length = gs0.length + m ∧ ∀ a ∈ gs, a.length = n
  | 0, j, gs0, gs, h, h0 => by
    cases h
    exact ⟨rfl, h0⟩
  | m + 1, j, gs0, gs, h, h0 => by
    rw [repE_succ] at h
    unfold chF at h
    cases hf : rowAll (us.getD j noLine) b d n with
    | false => rw [hf] at h; cases h
    | true =>
      rw [hf] at h
      obtain ⟨h1, h2⟩ := chF_rows m (j + 1) _ gs h fun a ha => by
        rcases List.mem_append.1 ha with ha | ha
        · exact h0 a ha
        · rw [List.mem_singleton.1 ha, divR_len, rowV_len]
      exact ⟨by rw [h1]; simp; omega, h2⟩
theorem fit3 {gs : List (List Nat)} {rs : List Nat} {n : Nat} (h1 : gs.length = 3) (h2 : ∀ a ∈ gs, a.length = n) (h3 : rs.length = n) (hn : n ≤ 128) :
    rowsFit gs rs = true ∧ sq3 (gram gs rs) = true ∧ sqOk (diagX 0 (gram gs rs)) = true ∧ (gram gs rs).length = 3 := by
  have hl : (gram gs rs).length = 3 := by rw [gram_len, h1]
  have hs : sq3 (gram gs rs) = true := by
    unfold sq3
    rw [hl, Bool.and_eq_true, List.all_eq_true]
    refine ⟨rfl, fun x hx => ?_⟩
    unfold gram at hx
    obtain ⟨a, _, rfl⟩ := List.mem_map.1 hx
    rw [gramR_len, h1]
    rfl
  refine ⟨?_, hs, ?_, hl⟩
  · unfold rowsFit
    simp only [Bool.and_eq_true, List.all_eq_true]
    refine ⟨Nat.ble_eq_true_of_le (by omega), Nat.ble_eq_true_of_le (by omega), fun a ha => ?_⟩
    rw [h2 a ha, h3]
    exact Nat.beq_refl _
  · obtain ⟨a0, a1, a2, a3, b0, b1, b2, b3, c0, c1, c2, c3, hX⟩ := sq3_lit hs
    rw [hX]
    rfl
theorem rowS_len (u l : LineV) (s b d n : Nat) : (rowS u l s b d n).length = n := by
  have : ∀ (m j : Nat) (zs : List Nat), (rep (rowF u l s b d) m j zs).length = zs.length + m := by
    intro m
    induction m with
    | zero => intro j zs; rfl
    | succ m ih => intro j zs; rw [rep_succ, ih]; simp [rowF]; omega
  unfold rowS
  rw [this]
  simp
theorem restF_len (ys : List Nat) (l : LineV) (b d : Nat) (m : Nat) : (rep (restF ys l b d) m 0 []).length = m := by
  have : ∀ (m j : Nat) (zs : List Nat), (rep (restF ys l b d) m j zs).length = zs.length + m := by
    intro m
    induction m with
    | zero => intro j zs; rfl
    | succ m ih => intro j zs; rw [rep_succ, ih]; simp [restF]; omega
  rw [this]
  simp
theorem rows3 (us : List LineV) (ss : List Nat) (l : LineV) (b d n : Nat) : (rep (rowsF us ss l b d n) 3 0 []).length = 3 ∧ ∀ a ∈ rep (rowsF us ss l b d n) 3 0 [], a.length = n := by
  refine ⟨rfl, fun a ha => ?_⟩
  have : rep (rowsF us ss l b d n) 3 0 [] = [rowS (us.getD 0 noLine) l (ss.getD 0 0) b d n, rowS (us.getD 1 noLine) l (ss.getD 1 0) b d n, rowS (us.getD 2 noLine) l (ss.getD 2 0) b d n] := rfl
  rw [this] at ha
  simp only [List.mem_cons, List.not_mem_nil, or_false] at ha
  rcases ha with rfl | rfl | rfl <;> exact rowS_len _ _ _ _ _ _
theorem diag3_len {X : List (List Nat)} {l : List Nat} (h : sq3 X = true) (hl : solveL (diagX 0 X) = some l) : l.length = 3 := by
  obtain ⟨a0, a1, a2, a3, b0, b1, b2, b3, c0, c1, c2, c3, rfl⟩ := sq3_lit h
  exact (solveL_len hl rfl).trans rfl
theorem chL_len {l : LineV} {ys c : List Nat} {b d : Nat} (hy : ys.length ≤ 128) (h : chL l ys b d = some c) : c.length = 3 := by
  unfold chL at h
  cases h1 : rowAll l b d ys.length with
  | false => rw [h1] at h; cases h
  | true =>
    rw [h1] at h
    simp only [cond_true] at h
    split at h
    · rename_i gs hg
      obtain ⟨g1, g2⟩ := chF_rows 3 0 [] gs hg (fun a ha => by cases ha)
      exact diag3_len (fit3 (by simpa using g1) g2 (subR_len ys _) hy).2.1 h
    · cases h
theorem diag_len3 {X : List (List Nat)} (h : sq3 X = true) : Nat.ble (diagX 0 X).length 3 = true := by
  obtain ⟨a0, a1, a2, a3, b0, b1, b2, b3, c0, c1, c2, c3, rfl⟩ := sq3_lit h
  rfl
theorem chS_fit (l : LineV) {ys : List Nat} (b d : Nat) (hy : ys.length ≤ 128) : rowsFit (rep (rowsF (alts l) (byS l) l b d ys.length) 3 0 []) (rep (restF ys l b d) ys.length 0 []) = true ∧
    sq3 (gram (rep (rowsF (alts l) (byS l) l b d ys.length) 3 0 []) (rep (restF ys l b d) ys.length 0 [])) = true ∧
    sqOk (diagX 0 (gram (rep (rowsF (alts l) (byS l) l b d ys.length) 3 0 []) (rep (restF ys l b d) ys.length 0 []))) = true ∧ (gram (rep (rowsF (alts l) (byS l) l b d ys.length) 3 0 []) (rep (restF ys l b d) ys.length 0 [])).length = 3 :=
  fit3 (rows3 _ _ _ _ _ _).1 (rows3 _ _ _ _ _ _).2 (restF_len _ _ _ _ _) hy
theorem chS_len {l : LineV} {ys c : List Nat} {b d : Nat} (hy : ys.length ≤ 128) (h : chS l ys b d = some c) : c.length = 3 := diag3_len (chS_fit l b d hy).2.1 h
theorem set_getD {α : Type} (l : List α) (d : α) : l.set 0 (l.getD 0 d) = l := by
  cases l <;> rfl
theorem getD_set0 {α : Type} {l : List α} {a d : α} (h : 1 ≤ l.length) : (l.set 0 a).getD 0 d = a := by
  cases l with
  | nil => simp at h
  | cons x l => rfl
end Go.Sm
namespace Go.Sm
open Go Ieee
theorem cut_near (n drop : Nat) : 2 * Toward.even.cut false n drop * 2 ^ drop ≤ 2 * n + 2 ^ drop ∧ 2 * n ≤ 2 * Toward.even.cut false n drop * 2 ^ drop + 2 ^ drop := by
  unfold Toward.cut
  dsimp only
  rw [Nat.one_shiftLeft]
  rcases Nat.le_total drop (n.log2 + 2) with hd | hd
  · rw [Nat.min_eq_left hd]
    have hg := Nat.two_pow_pos drop
    generalize 2 ^ drop = g at *
    have h1 := Nat.div_add_mod n g
    have h2 := Nat.mod_lt n hg
    generalize n / g = q at *
    generalize n % g = r at *
    rw [Nat.mul_comm g q] at h1
    by_cases hm : (g < 2 * r || (g == 2 * r && q % 2 == 1)) = true
    · rw [hm]
      have h3 : g ≤ 2 * r := by
        simp only [Bool.or_eq_true, decide_eq_true_eq, Bool.and_eq_true, beq_iff_eq] at hm
        omega
      have e : 2 * (q + true.toNat) * g = 2 * (q * g) + 2 * g := by
        show 2 * (q + 1) * g = _
        rw [Nat.mul_add, Nat.add_mul, Nat.mul_assoc]
      rw [e]
      omega
    · have hm' : (g < 2 * r || (g == 2 * r && q % 2 == 1)) = false := by simpa using hm
      rw [hm']
      have h3 : 2 * r ≤ g := by
        simp only [Bool.or_eq_true, decide_eq_true_eq, Bool.and_eq_true, beq_iff_eq, not_or] at hm
        omega
      have e : 2 * (q + false.toNat) * g = 2 * (q * g) := by
        show 2 * (q + 0) * g = _
        rw [Nat.add_zero, Nat.mul_assoc]
      rw [e]
      omega
  · rw [Nat.min_eq_right hd]
    have h1 : n < 2 ^ (n.log2 + 1) := Nat.lt_log2_self
    have h2 : 2 ^ (n.log2 + 2) ≤ 2 ^ drop := Nat.pow_le_pow_right (by decide) hd
    have h3 : 2 ^ (n.log2 + 2) = 2 * 2 ^ (n.log2 + 1) := by rw [Nat.pow_succ']
    have h4 : n < 2 ^ (n.log2 + 2) := by omega
    rw [Nat.div_eq_of_lt h4, Nat.mod_eq_of_lt h4]
    have h5 : (decide (2 ^ (n.log2 + 2) < 2 * n) || (2 ^ (n.log2 + 2) == 2 * n && 0 % 2 == 1)) = false := by
      have : decide (2 ^ (n.log2 + 2) < 2 * n) = false := decide_eq_false (by omega)
      rw [this]
      simp
    rw [h5]
    simp
    omega
theorem rv_at {f : Format} {E c : Nat} (h1 : c ≤ 2 * f.binade) (h2 : 0 < E → f.binade ≤ c) : rv f (E * f.binade + c) = c * 2 ^ E := by
  have hb := binade_pos f
  unfold rv
  by_cases hc : c < f.binade
  · have hE : E = 0 := by
      rcases Nat.eq_zero_or_pos E with h | h
      · exact h
      · have := h2 h; omega
    subst hE
    simp [hc]
  · have hn : ¬ (E * f.binade + c < f.binade) := by
      have : 0 ≤ E * f.binade := Nat.zero_le _
      omega
    rw [if_neg hn]
    rcases Nat.lt_or_ge c (2 * f.binade) with h3 | h3
    · have e1 : (E * f.binade + c) / f.binade = E + 1 := by
        rw [Nat.add_comm, Nat.add_mul_div_right _ _ hb, Nat.div_eq_of_lt_le (m := c) (n := f.binade) (k := 1) (by omega) (by omega)]
        omega
      have e2 : (E * f.binade + c) % f.binade = c - f.binade := by
        rw [Nat.add_comm, Nat.add_mul_mod_self_right, Nat.mod_eq_sub_mod (by omega), Nat.mod_eq_of_lt (by omega)]
      rw [e1, e2]
      congr 1
      omega
    · have hc2 : c = 2 * f.binade := by omega
      subst hc2
      have e0 : E * f.binade + 2 * f.binade = (E + 2) * f.binade := by rw [Nat.add_mul]
      rw [e0, Nat.mul_mod_left, Nat.mul_div_cancel _ hb, Nat.add_zero, show E + 2 - 1 = E + 1 by omega, Nat.pow_succ]
      rw [Nat.mul_comm 2 f.binade, Nat.mul_assoc, Nat.mul_comm 2]
theorem rv_step {f : Format} {E c : Nat} (h1 : c ≤ 2 * f.binade) (h2 : 0 < E → f.binade ≤ c) : (c + 1) * 2 ^ E ≤ rv f (E * f.binade + c + 1) := by
  have hb := binade_pos f
  rcases Nat.lt_or_ge c (2 * f.binade) with h3 | h3
  · have := rv_at (f := f) (E := E) (c := c + 1) (by omega) (fun h => by have := h2 h; omega)
    rw [Nat.add_assoc, this]
    exact Nat.le_refl _
  · have hc2 : c = 2 * f.binade := by omega
    have e0 : E * f.binade + c + 1 = (E + 1) * f.binade + (f.binade + 1) := by rw [hc2, Nat.add_mul]; omega
    rw [e0, rv_at (by omega) (fun _ => by omega), Nat.pow_succ', ← Nat.mul_assoc]
    exact Nat.mul_le_mul_right _ (by omega)
theorem nrung_near {f : Format} {mag : Nat} {place : Int} {k1 k2 : Nat} (hk : (k1 : Int) - (k2 : Int) = place - f.leastPlace) :
    (∀ b, 2 * mag * 2 ^ k1 < (rv f b + rv f (b + 1)) * 2 ^ k2 → nrung f mag place ≤ b) ∧ (∀ b, b + 1 ≤ f.infRung → (rv f b + rv f (b + 1)) * 2 ^ k2 < 2 * mag * 2 ^ k1 → b + 1 ≤ nrung f mag place) := by
  have hb := binade_pos f
  by_cases hm : mag = 0
  · subst hm
    have : nrung f 0 place = 0 := by unfold nrung; rfl
    rw [this]
    exact ⟨fun b _ => Nat.zero_le _, fun b _ h => by simp at h⟩
  have hB : f.binade = 2 ^ f.fractionBits := rfl
  have hL : 2 ^ mag.log2 ≤ mag := Nat.log2_self_le hm
  have hL2 : mag < 2 ^ (mag.log2 + 1) := Nat.lt_log2_self
  have hun : nrung f mag place = min ((max (place + mag.log2 - f.fractionBits) f.leastPlace - f.leastPlace).toNat * f.binade + Toward.even.cut false (mag <<< (place - max (place + mag.log2 - f.fractionBits) f.leastPlace).toNat) (max (place + mag.log2 - f.fractionBits) f.leastPlace - place).toNat) f.infRung := by
    unfold nrung
    rw [if_neg hm]
  rw [hun]
  clear hun
  generalize hlast : max (place + (mag.log2 : Int) - f.fractionBits) f.leastPlace = last
  obtain ⟨E, hel⟩ : ∃ el : Nat, last = f.leastPlace + el := ⟨(last - f.leastPlace).toNat, by omega⟩
  have he : (last - f.leastPlace).toNat = E := by omega
  rw [he, Nat.shiftLeft_eq]
  generalize hup : (place - last).toNat = up
  generalize hdr : (last - place).toNat = drop
  have hex : k1 + drop = k2 + E + up := by omega
  have hc1 : Toward.even.cut false (mag * 2 ^ up) drop ≤ 2 * f.binade := by
    refine cut_le ?_
    rw [hB, ← Nat.pow_succ', ← Nat.pow_add]
    have h2 : mag * 2 ^ up ≤ 2 ^ (mag.log2 + 1) * 2 ^ up := Nat.mul_le_mul_right _ (Nat.le_of_lt hL2)
    rw [← Nat.pow_add] at h2
    exact Nat.le_trans h2 (Nat.pow_le_pow_right (by decide) (by omega))
  have hlow : 0 < E → f.binade * 2 ^ drop ≤ mag * 2 ^ up := fun hE => by
    have h2 : last = place + (mag.log2 : Int) - f.fractionBits := by omega
    rw [hB, ← Nat.pow_add]
    have h3 : 2 ^ mag.log2 * 2 ^ up ≤ mag * 2 ^ up := Nat.mul_le_mul_right _ hL
    rw [← Nat.pow_add] at h3
    exact Nat.le_trans (Nat.pow_le_pow_right (by decide) (by omega)) h3
  have hc2 : 0 < E → f.binade ≤ Toward.even.cut false (mag * 2 ^ up) drop := fun hE => cut_ge (hlow hE)
  obtain ⟨n1, n2⟩ := cut_near (mag * 2 ^ up) drop
  generalize Toward.even.cut false (mag * 2 ^ up) drop = c at *
  have hR := rv_at (f := f) hc1 hc2
  have hpu := Nat.two_pow_pos up
  have scale : ∀ a : Nat, a * 2 ^ drop ≤ 2 * (mag * 2 ^ up) → a * 2 ^ E * 2 ^ k2 ≤ 2 * mag * 2 ^ k1 := fun a h => by
    refine Nat.le_of_mul_le_mul_right ?_ hpu
    have e1 : a * 2 ^ E * 2 ^ k2 * 2 ^ up = a * 2 ^ drop * 2 ^ k1 := by
      rw [Nat.mul_assoc, Nat.mul_assoc, ← Nat.pow_add, ← Nat.pow_add, Nat.mul_assoc, ← Nat.pow_add]
      congr 2
      omega
    have e2 : 2 * mag * 2 ^ k1 * 2 ^ up = 2 * (mag * 2 ^ up) * 2 ^ k1 := by ac_rfl
    rw [e1, e2]
    exact Nat.mul_le_mul_right _ h
  have scale2 : ∀ a : Nat, 2 * (mag * 2 ^ up) ≤ a * 2 ^ drop → 2 * mag * 2 ^ k1 ≤ a * 2 ^ E * 2 ^ k2 := fun a h => by
    refine Nat.le_of_mul_le_mul_right ?_ hpu
    have e1 : a * 2 ^ E * 2 ^ k2 * 2 ^ up = a * 2 ^ drop * 2 ^ k1 := by
      rw [Nat.mul_assoc, Nat.mul_assoc, ← Nat.pow_add, ← Nat.pow_add, Nat.mul_assoc, ← Nat.pow_add]
      congr 2
      omega
    have e2 : 2 * mag * 2 ^ k1 * 2 ^ up = 2 * (mag * 2 ^ up) * 2 ^ k1 := by ac_rfl
    rw [e1, e2]
    exact Nat.mul_le_mul_right _ h
  refine ⟨fun b h => ?_, fun b hi h => ?_⟩
  · refine Nat.le_trans (Nat.min_le_left _ _) (Nat.not_lt.1 fun hlt => ?_)
    have m1 : rv f (b + 1) ≤ rv f (E * f.binade + c) := rv_le hlt
    have m2 : rv f b ≤ rv f (E * f.binade + c - 1) := rv_le (by omega)
    have key : (rv f (E * f.binade + c - 1) + rv f (E * f.binade + c)) * 2 ^ k2 ≤ 2 * mag * 2 ^ k1 := by
      by_cases hcase : 0 < E ∧ c = f.binade
      · have h1 : rv f (E * f.binade + c - 1) ≤ rv f (E * f.binade + c) := rv_le (by omega)
        have h2 := scale (2 * c) (by
          have := hlow hcase.1
          rw [← hcase.2] at this
          rw [Nat.mul_assoc]
          omega)
        refine Nat.le_trans (Nat.mul_le_mul_right _ (show _ ≤ 2 * c * 2 ^ E by rw [hR] at h1 ⊢; rw [Nat.mul_assoc]; omega)) h2
      · rcases Nat.eq_zero_or_pos c with h0 | h0
        · have hE : E = 0 := by
            rcases Nat.eq_zero_or_pos E with h | h
            · exact h
            · have := hc2 h; omega
          rw [hE, h0] at hlt
          omega
        · have h1 : rv f (E * f.binade + (c - 1)) = (c - 1) * 2 ^ E := rv_at (by omega) (fun h => by have := hc2 h; omega)
          have e1 : E * f.binade + c - 1 = E * f.binade + (c - 1) := by omega
          have h2 := scale (2 * c - 1) (by
            have e2 : (2 * c - 1) * 2 ^ drop + 2 ^ drop = 2 * c * 2 ^ drop := by
              rw [← Nat.succ_mul]
              congr 1
              omega
            omega)
          rw [e1, h1, hR]
          have e3 : (c - 1) * 2 ^ E + c * 2 ^ E = (2 * c - 1) * 2 ^ E := by
            rw [← Nat.add_mul]
            congr 1
            omega
          rw [e3]
          exact h2
    have := Nat.mul_le_mul_right (2 ^ k2) (Nat.add_le_add m2 m1)
    omega
  · refine Nat.le_min.2 ⟨Nat.not_lt.1 fun hlt => ?_, hi⟩
    have m1 : rv f (E * f.binade + c) ≤ rv f b := rv_le (by omega)
    have m2 : rv f (E * f.binade + c + 1) ≤ rv f (b + 1) := rv_le (by omega)
    have m3 := rv_step (f := f) hc1 hc2
    have h2 := scale2 (2 * c + 1) (by rw [Nat.add_mul, Nat.one_mul]; omega)
    have e3 : (2 * c + 1) * 2 ^ E = c * 2 ^ E + (c + 1) * 2 ^ E := by
      rw [← Nat.add_mul]
      congr 1
      omega
    rw [e3] at h2
    have := Nat.mul_le_mul_right (2 ^ k2) (show c * 2 ^ E + (c + 1) * 2 ^ E ≤ rv f b + rv f (b + 1) by rw [hR] at m1; omega)
    omega
end Go.Sm
namespace Go.Sm
open Go Ieee
theorem fop_addN {k : FloatKind} {x y : Nat} (hx : isNum k x = true) (hy : isNum k y = true) : ∃ s q, fop .add k x y = k.format.word s q ∧ q ≤ k.format.infRung ∧ (fv k x + fv k y < 0 → s = true) ∧ (0 < fv k x + fv k y → s = false) ∧
    (∀ b, 2 * (fv k x + fv k y).natAbs < rv k.format b + rv k.format (b + 1) → q ≤ b) ∧ (∀ b, b + 1 ≤ k.format.infRung → rv k.format b + rv k.format (b + 1) < 2 * (fv k x + fv k y).natAbs → b + 1 ≤ q) := by
  obtain ⟨m, e, h1, _⟩ := isNum_spell hx
  obtain ⟨n, e', h3, _⟩ := isNum_spell hy
  have hb : ∃ b : Nat, min (k.format.leastPlace + (e : Int)) (k.format.leastPlace + (e' : Int)) = k.format.leastPlace + (b : Int) ∧ b ≤ e ∧ b ≤ e' := ⟨min e e', by omega, Nat.min_le_left _ _, Nat.min_le_right _ _⟩
  obtain ⟨b, hb1, hb2, hb3⟩ := hb
  have q1 : (k.format.leastPlace + (e : Int) - (k.format.leastPlace + (b : Int))).toNat = e - b := by omega
  have q2 : (k.format.leastPlace + (e' : Int) - (k.format.leastPlace + (b : Int))).toNat = e' - b := by omega
  have v1 : fv k x = signed (sgn k x) m (e - b) * 2 ^ b := by
    rw [fv_read h1, ← signed_mul]
    congr 1
    omega
  have v2 : fv k y = signed (sgn k y) n (e' - b) * 2 ^ b := by
    rw [fv_read h3, ← signed_mul]
    congr 1
    omega
  have hr : floatBits .add k x y = some (k.format.nearest (if signed (sgn k x) m (e - b) + signed (sgn k y) n (e' - b) = 0 then sgn k x && sgn k y else decide (signed (sgn k x) m (e - b) + signed (sgn k y) n (e' - b) < 0)) (signed (sgn k x) m (e - b) + signed (sgn k y) n (e' - b)).natAbs (k.format.leastPlace + (b : Int))) := by
    show k.format.add x y = _
    unfold Format.add
    rw [h1, h3]
    simp only [Datum.sum, hb1, q1, q2, Option.map_some, Format.write]
  rw [fop_some hr, nearest_eq]
  have hsum : fv k x + fv k y = (signed (sgn k x) m (e - b) + signed (sgn k y) n (e' - b)) * 2 ^ b := by rw [v1, v2, Int.add_mul]
  generalize signed (sgn k x) m (e - b) + signed (sgn k y) n (e' - b) = S at hsum ⊢
  have hp : (0 : Int) < 2 ^ b := Int.pow_pos (by decide)
  have hna : (fv k x + fv k y).natAbs = S.natAbs * 2 ^ b := by
    rw [hsum, Int.natAbs_mul, Int.natAbs_pow]
    rfl
  obtain ⟨n1, n2⟩ := nrung_near (f := k.format) (mag := S.natAbs) (place := k.format.leastPlace + (b : Int)) (k1 := b) (k2 := 0) (by omega)
  refine ⟨_, _, rfl, nrung_inf _ _ _, fun h => ?_, fun h => ?_, fun c h => n1 c ?_, fun c hc h => n2 c hc ?_⟩
  · rw [hsum] at h
    have : S < 0 := by
      rcases Int.lt_or_le S 0 with h1 | h1
      · exact h1
      · have := Int.mul_nonneg h1 (Int.le_of_lt hp); omega
    rw [if_neg (by omega)]
    exact decide_eq_true this
  · rw [hsum] at h
    have : 0 < S := by
      rcases Int.lt_or_le 0 S with h1 | h1
      · exact h1
      · have := Int.mul_nonneg (show 0 ≤ -S by omega) (Int.le_of_lt hp)
        rw [Int.neg_mul] at this
        omega
    rw [if_neg (by omega)]
    exact decide_eq_false (by omega)
  · rw [Nat.pow_zero, Nat.mul_one, Nat.mul_assoc, ← hna]
    exact h
  · rw [Nat.pow_zero, Nat.mul_one, Nat.mul_assoc, ← hna]
    exact h
theorem pow_lt_of {a b : Nat} (h : 2 ^ a < 2 ^ b) : a < b := by
  rcases Nat.lt_or_ge a b with h1 | h1
  · exact h1
  · have := Nat.pow_le_pow_right (show 1 ≤ 2 by decide) h1
    omega
theorem rung_gap {b t : Nat} (h : 2 ^ (t + 23) ≤ rv FloatKind.f32.format b) : rv FloatKind.f32.format b + 2 ^ t ≤ rv FloatKind.f32.format (b + 1) := by
  obtain ⟨m, e, h1, h2, h3, h4⟩ := rung_split FloatKind.f32.format b
  have hB : FloatKind.f32.format.binade = 8388608 := by decide
  have hs := rv_step (f := FloatKind.f32.format) (E := e) (c := m) (by omega) h3
  rw [← h1] at hs
  have he : t ≤ e := by
    rw [h4] at h
    have h5 : m * 2 ^ e < 2 ^ 24 * 2 ^ e := Nat.mul_lt_mul_of_pos_right (by rw [hB] at h2; omega) (Nat.two_pow_pos _)
    rw [← Nat.pow_add] at h5
    have := pow_lt_of (Nat.lt_of_le_of_lt h h5)
    omega
  have h6 : 2 ^ t ≤ 2 ^ e := Nat.pow_le_pow_right (by decide) he
  rw [Nat.add_mul, Nat.one_mul, ← h4] at hs
  omega
theorem absorb {x y : Nat} (hx : isNum .f32 x = true) (hy : isNum .f32 y = true) (h1 : 2 ^ 169 ≤ (fv .f32 x).natAbs) (h2 : (fv .f32 y).natAbs ≤ 2 ^ 143) : isNum .f32 (fop .add .f32 x y) = true ∧ fv .f32 (fop .add .f32 x y) = fv .f32 x := by
  obtain ⟨s, q, e, hq, n1, n2, n3, n4⟩ := fop_addN hx hy
  have hb := fv_natAbs .f32 x
  have hl := isNum_lt hx
  generalize hbb : x % FloatKind.f32.format.signWeight = b at *
  have hr : 2 ^ 169 ≤ rv FloatKind.f32.format b := by rw [← hb]; exact h1
  have g1 := rung_gap (b := b) (t := 146) hr
  have hb20 : 1233125376 ≤ b := by
    have e1 : rv FloatKind.f32.format 1233125376 = 2 ^ 169 := by decide +kernel
    rcases Nat.lt_or_ge b 1233125376 with h | h
    · have := rv_lt (f := FloatKind.f32.format) h
      omega
    · exact h
  have hd : 2 ^ 168 ≤ rv FloatKind.f32.format (b - 1) := by
    have e1 : 2 ^ 168 ≤ rv FloatKind.f32.format 1233125375 := by decide +kernel
    exact Nat.le_trans e1 (rv_le (by omega))
  have g2 := rung_gap (b := b - 1) (t := 145) hd
  rw [show b - 1 + 1 = b by omega] at g2
  have p1 : (2 : Nat) ^ 146 = 8 * 2 ^ 143 := by decide
  have p2 : (2 : Nat) ^ 145 = 4 * 2 ^ 143 := by decide
  have p3 : (2 : Nat) ^ 169 = 67108864 * 2 ^ 143 := by decide
  have p4 : 0 < (2 : Nat) ^ 143 := Nat.two_pow_pos _
  generalize (2 : Nat) ^ 143 = c at *
  rw [p1] at g1
  rw [p2] at g2
  rw [p3] at h1
  have s1 : (fv .f32 x + fv .f32 y).natAbs ≤ (fv .f32 x).natAbs + c := by omega
  have s2 : (fv .f32 x).natAbs ≤ (fv .f32 x + fv .f32 y).natAbs + c := by omega
  have u1 : q ≤ b := n3 b (by omega)
  have u2 : b ≤ q := by
    have := n4 (b - 1) (by omega) (by rw [show b - 1 + 1 = b by omega]; omega)
    omega
  have hqb : q = b := Nat.le_antisymm u1 u2
  subst hqb
  rw [e]
  refine ⟨word_isNum _ hl, ?_⟩
  rw [fv_word _ (Nat.lt_trans hl (inf_lt_sw .f32)), ← hb]
  rcases Int.lt_or_le (fv .f32 x) 0 with h | h
  · rw [n1 (by omega), if_pos rfl]
    omega
  · rw [n2 (by omega), if_neg (by decide)]
    omega
theorem not_over {x y : Nat} (hx : isNum .f32 x = true) (hy : isNum .f32 y = true) (h2 : (fv .f32 y).natAbs ≤ 2 ^ 229) : isNum .f32 (fop .add .f32 x y) = true := by
  obtain ⟨s, q, e, hq, n1, n2, n3, n4⟩ := fop_addN hx hy
  have hl := isNum_lt hx
  have hb := fv_natAbs .f32 x
  have hm : rv FloatKind.f32.format (x % FloatKind.f32.format.signWeight) ≤ rv FloatKind.f32.format 2139095039 := rv_le (by
    have : FloatKind.f32.format.infRung = 2139095040 := by decide
    omega)
  have hg : rv FloatKind.f32.format 2139095039 + 2 ^ 253 = rv FloatKind.f32.format (2139095039 + 1) := by decide +kernel
  have p : (2 : Nat) ^ 253 = 16777216 * 2 ^ 229 := by decide
  have p4 : 0 < (2 : Nat) ^ 229 := Nat.two_pow_pos _
  have : q ≤ 2139095039 := n3 _ (by
    rw [← hg, p]
    generalize (2 : Nat) ^ 229 = c at *
    omega)
  rw [e]
  exact word_isNum _ (Nat.lt_of_le_of_lt this (by decide))
def Bq (c : Prop) (B v : Nat) : Prop := (c ∧ isN .f32 v = true) ∨ (isNum .f32 v = true ∧ (fv .f32 v).natAbs ≤ B)
section
variable {c : Prop}
theorem Bq.mono {B B' v : Nat} (h : Bq c B v) (hB : B ≤ B') : Bq c B' v := h.imp id fun h => ⟨h.1, Nat.le_trans h.2 hB⟩
theorem Bq.mul {X Y x y : Nat} (z : Nat) (hx : Bq c X x) (hy : Bq c Y y) (h : X * Y ≤ rv FloatKind.f32.format z * 2 ^ 149) (hz : z < 2139095040) : Bq c (rv FloatKind.f32.format z) (fop .mul .f32 x y) := by
  rcases hx with ⟨hc, hn⟩ | ⟨hx, hX⟩
  · exact .inl ⟨hc, by rw [fop_nan_l hn]; exact isN_nanOf _⟩
  · rcases hy with ⟨hc, hn⟩ | ⟨hy, hY⟩
    · exact .inl ⟨hc, by rw [fop_nan_r hn]; exact isN_nanOf _⟩
    · obtain ⟨a, b, _⟩ := mulB (z := z) hx hy hX hY h hz
      exact .inr ⟨a, b⟩
theorem Bq.add {X Y x y : Nat} (z : Nat) (hx : Bq c X x) (hy : Bq c Y y) (h : X + Y ≤ rv FloatKind.f32.format z) (hz : z < 2139095040) : Bq c (rv FloatKind.f32.format z) (fop .add .f32 x y) := by
  rcases hx with ⟨hc, hn⟩ | ⟨hx, hX⟩
  · exact .inl ⟨hc, by rw [fop_nan_l hn]; exact isN_nanOf _⟩
  · rcases hy with ⟨hc, hn⟩ | ⟨hy, hY⟩
    · exact .inl ⟨hc, by rw [fop_nan_r hn]; exact isN_nanOf _⟩
    · obtain ⟨s, q, e, _, _, _, n3, _⟩ := fop_add hx hy
      have hq : q ≤ z := n3 z (by omega)
      have hqi : q < FloatKind.f32.format.infRung := Nat.lt_of_le_of_lt hq hz
      rw [e]
      exact .inr ⟨word_isNum _ hqi, by rw [fv_word_abs _ hqi]; exact rv_le hq⟩
theorem Bq.sub {X Y x y : Nat} (z : Nat) (hx : Bq c X x) (hy : Bq c Y y) (h : X + Y ≤ rv FloatKind.f32.format z) (hz : z < 2139095040) : Bq c (rv FloatKind.f32.format z) (fop .sub .f32 x y) := by
  rcases hx with ⟨hc, hn⟩ | ⟨hx, hX⟩
  · exact .inl ⟨hc, by rw [fop_nan_l hn]; exact isN_nanOf _⟩
  · rcases hy with ⟨hc, hn⟩ | ⟨hy, hY⟩
    · exact .inl ⟨hc, by rw [fop_nan_r hn]; exact isN_nanOf _⟩
    · obtain ⟨s, q, e, _, _, _, n3, _⟩ := fop_sub hx hy
      have hq : q ≤ z := n3 z (by omega)
      have hqi : q < FloatKind.f32.format.infRung := Nat.lt_of_le_of_lt hq hz
      rw [e]
      exact .inr ⟨word_isNum _ hqi, by rw [fv_word_abs _ hqi]; exact rv_le hq⟩
theorem Bq.quo {X W x y : Nat} (z : Nat) (hx : Bq c X x) (hy : isNum .f32 y = true) (hW : W ≤ (fv .f32 y).natAbs) (hW0 : 0 < W) (h : X * 2 ^ 149 ≤ rv FloatKind.f32.format z * W) (hz : z < 2139095040) : Bq c (rv FloatKind.f32.format z) (fop .quo .f32 x y) := by
  rcases hx with ⟨hc, hn⟩ | ⟨hx, hX⟩
  · exact .inl ⟨hc, by rw [fop_nan_l hn]; exact isN_nanOf _⟩
  · obtain ⟨q, e, _, n3, _⟩ := fop_quo hx hy (by omega)
    have hlp : lp .f32 = 149 := by decide
    rw [hlp] at n3
    have hq : q ≤ z := n3 z (Nat.le_trans (Nat.mul_le_mul_right _ hX) (Nat.le_trans h (Nat.mul_le_mul_left _ hW)))
    have hqi : q < FloatKind.f32.format.infRung := Nat.lt_of_le_of_lt hq hz
    rw [e]
    exact .inr ⟨word_isNum _ hqi, by rw [fv_word_abs _ hqi]; exact rv_le hq⟩
theorem Bq.num {B v : Nat} (h : isNum .f32 v = true) (hB : (fv .f32 v).natAbs ≤ B) : Bq c B v := .inr ⟨h, hB⟩
end
theorem word_kind2 {s : Bool} {q : Nat} (h : q ≤ 2139095040) : isNum .f32 (FloatKind.f32.format.word s q) = true ∨ q = 2139095040 := by
  rcases Nat.lt_or_ge q 2139095040 with h1 | h1
  · exact .inl (word_isNum _ h1)
  · exact .inr (Nat.le_antisymm h h1)
theorem quo_word (a b : Nat) : isN .f32 (fop .quo .f32 a b) = true ∨ ∃ s q, q ≤ 2139095040 ∧ fop .quo .f32 a b = FloatKind.f32.format.word s q := by
  have hinf : FloatKind.f32.format.infRung = 2139095040 := by decide
  have key : ∀ d, (∀ s f, d ≠ Datum.nan s f) → floatBits .quo .f32 a b = some (FloatKind.f32.format.write d) → ∃ s q, q ≤ 2139095040 ∧ fop .quo .f32 a b = FloatKind.f32.format.word s q := by
    intro d hd h
    rw [fop_some h]
    cases d with
    | nan s f => exact absurd rfl (hd s f)
    | infinity s => exact ⟨s, _, Nat.le_of_eq hinf, rfl⟩
    | number s m i =>
      show ∃ s' q, q ≤ 2139095040 ∧ FloatKind.f32.format.nearest s m i = _
      rw [nearest_eq]
      exact ⟨s, _, by have := nrung_inf FloatKind.f32.format m i; omega, rfl⟩
  have hun : floatBits .quo .f32 a b = (Datum.quotient (FloatKind.f32.format.fractionBits + 2) (FloatKind.f32.format.read a) (FloatKind.f32.format.read b)).map FloatKind.f32.format.write := rfl
  cases hq : Datum.quotient (FloatKind.f32.format.fractionBits + 2) (FloatKind.f32.format.read a) (FloatKind.f32.format.read b) with
  | none =>
    left
    rw [hq] at hun
    unfold fop
    rw [hun]
    exact isN_nanOf _
  | some d =>
    right
    refine key d (fun s f he => ?_) (by rw [hun, hq]; rfl)
    subst he
    unfold Datum.quotient at hq
    split at hq <;> try cases hq
    split at hq
    · split at hq <;> cases hq
    · cases hq
end Go.Sm
namespace Go.Sm
open Go Ieee
theorem narrow_le {c : Nat} (h : isNum .f64 c = true) (hb : (fv .f64 c).natAbs ≤ U) : ∃ s q, fconv .f64 .f32 c = some (FloatKind.f32.format.word s q) ∧ q ≤ 1065353216 := by
  obtain ⟨m, e, h1, h2⟩ := isNum_spell h
  have hn : isN .f64 c = false := by
    show (FloatKind.f64.format.read c).isNaN = false
    rw [h1]
    rfl
  have hk : ((e : Nat) : Int) - ((925 : Nat) : Int) = FloatKind.f64.format.leastPlace + (e : Int) - FloatKind.f32.format.leastPlace := by
    have a1 := lp_eq .f64
    have a2 := lp_eq .f32
    have a3 : lp .f64 = 1074 := by decide
    have a4 : lp .f32 = 149 := by decide
    omega
  have hr : nrung FloatKind.f32.format m (FloatKind.f64.format.leastPlace + (e : Int)) ≤ 1065353216 := by
    refine nrung_le (k1 := e) (k2 := 925) hk ?_
    have e1 : rv FloatKind.f32.format 1065353216 * 2 ^ 925 = U := by decide +kernel
    rw [e1, ← h2]
    exact hb
  have hlt : nrung FloatKind.f32.format m (FloatKind.f64.format.leastPlace + (e : Int)) < FloatKind.f32.format.infRung := Nat.lt_of_le_of_lt hr (by decide)
  refine ⟨sgn .f64 c, nrung FloatKind.f32.format m (FloatKind.f64.format.leastPlace + (e : Int)), ?_, hr⟩
  have hnum : isNum .f32 (FloatKind.f32.format.nearest (sgn .f64 c) m (FloatKind.f64.format.leastPlace + (e : Int))) = true := by
    rw [nearest_eq]
    exact word_isNum _ hlt
  unfold fconv
  rw [hn]
  show floatToFloatBits .f64 c .f32 = _
  unfold floatToFloatBits
  rw [if_neg (by decide)]
  have hd : FloatKind.f64.decode c = .number (sgn .f64 c) m (FloatKind.f64.format.leastPlace + (e : Int)) := h1
  rw [hd]
  have hinf : (FloatKind.f32.decode (FloatKind.f32.encode (.number (sgn .f64 c) m (FloatKind.f64.format.leastPlace + (e : Int))))).isInfinity = false := by
    obtain ⟨m', e', h3, _⟩ := isNum_read hnum
    show (FloatKind.f32.format.read (FloatKind.f32.format.nearest (sgn .f64 c) m (FloatKind.f64.format.leastPlace + (e : Int)))).isInfinity = false
    rw [h3]
    rfl
  simp only [hinf, Bool.false_eq_true, if_false]
  rw [← nearest_eq]
  rfl
theorem rv149 : rv FloatKind.f32.format 1065353216 = 2 ^ 149 := by decide +kernel
theorem rv170 : rv FloatKind.f32.format 1241513984 = 2 ^ 170 := by decide +kernel
theorem rv171 : rv FloatKind.f32.format 1249902592 = 2 ^ 171 := by decide +kernel
theorem rv172 : rv FloatKind.f32.format 1258291200 = 2 ^ 172 := by decide +kernel
theorem num0 : isNum .f32 0 = true ∧ fv .f32 0 = 0 := by decide +kernel
theorem num1 : isNum .f32 1065353216 = true ∧ fv .f32 1065353216 = 2 ^ 149 := by decide +kernel
theorem exp_bq {c : Prop} {z : Nat} (h : expOk z = true) (hc : c ∨ isN .f32 z = false) : Bq c (2 ^ 149) (expF z) := by
  rcases word_kind .f32 z with h1 | ⟨s, h1⟩ | h1
  · obtain ⟨w1, w2, _⟩ := wid_num h1
    have hz : fv .f32 z ≤ 0 := by
      unfold expOk at h
      rw [Bool.or_eq_true] at h
      rcases h with h | h
      · exfalso
        obtain ⟨m, e, h3, _⟩ := isNum_read h1
        have : (FloatKind.f32.format.read z).isNaN = true := h
        rw [h3] at this
        cases this
      · rw [fcmp_num_leq h1 num0.1, num0.2] at h
        exact of_decide_eq_true h
    obtain ⟨e1, e2, e3⟩ := expI_in w1 (w2 hz)
    obtain ⟨s, q, a1, a2⟩ := narrow_le e1 (by omega)
    have he : expF z = FloatKind.f32.format.word s q := by
      unfold expF
      rw [a1]
      rfl
    rw [he]
    have hq : q < FloatKind.f32.format.infRung := Nat.lt_of_le_of_lt a2 (by decide)
    exact .inr ⟨word_isNum _ hq, by rw [fv_word_abs _ hq, ← rv149]; exact rv_le a2⟩
  · have hw := wid_inf h1
    have hs : s = true := by
      cases s with
      | true => rfl
      | false =>
        exfalso
        unfold expOk at h
        have a1 : isN .f32 z = false := by
          show (FloatKind.f32.format.read z).isNaN = false
          rw [h1]
          rfl
        have a2 : fcmp .leq .f32 z 0 = false := by
          unfold fcmp Ieee.Format.order
          rw [h1]
          rfl
        rw [a1, a2] at h
        cases h
    subst hs
    have b1 : fcmp .gtr .f64 (wid z) 4641240890982006784 = false := by
      unfold fcmp Ieee.Format.order
      rw [hw]
      rfl
    have b2 : fcmp .lss .f64 (wid z) 13864612927836782592 = true := by
      unfold fcmp Ieee.Format.order
      rw [hw]
      rfl
    unfold expF expI
    rw [b1, b2]
    simp only [cond_false, cond_true]
    exact .inr (by decide +kernel)
  · rcases hc with hc | hc
    · refine .inl ⟨hc, ?_⟩
      have hi : isN .f64 (expI (wid z)) = true := by
        rw [wid_nan h1]
        exact expI_nan (isN_nanOf .f64)
      unfold expF
      rw [narrow_nan hi]
      exact isN_nanOf .f32
    · rw [h1] at hc
      cases hc
theorem isN_num {v : Nat} (h : isNum .f32 v = true) : isN .f32 v = false := by
  obtain ⟨m, e, h3, _⟩ := isNum_read h
  show (FloatKind.f32.format.read v).isNaN = false
  rw [h3]
  rfl
theorem nn_word {s : Bool} {q : Nat} (h : q ≤ 2139095040) : isN .f32 (FloatKind.f32.format.word s q) = false := by
  rcases word_kind2 (s := s) h with h1 | h1
  · exact isN_num h1
  · rw [h1]
    cases s <;> decide +kernel
theorem sq_kind {u : Nat} (h : isN .f32 u = true ∨ ∃ s q, q ≤ 2139095040 ∧ u = FloatKind.f32.format.word s q) (hn : isN .f32 u = false) :
    (isNum .f32 (fop .mul .f32 u u) = true ∧ 0 ≤ fv .f32 (fop .mul .f32 u u)) ∨ fop .mul .f32 u u = 2139095040 := by
  rcases h with h | ⟨s, q, hq, rfl⟩
  · rw [h] at hn; cases hn
  · rcases word_kind2 (s := s) hq with h1 | h1
    · obtain ⟨q1, e, hq1, _⟩ := fop_mul h1 h1
      rw [Bool.xor_self] at e
      have hi : FloatKind.f32.format.infRung = 2139095040 := by decide
      rcases Nat.lt_or_ge q1 FloatKind.f32.format.infRung with h2 | h2
      · left
        rw [e]
        refine ⟨word_isNum _ h2, ?_⟩
        rw [fv_word _ (Nat.lt_trans h2 (inf_lt_sw .f32)), if_neg (by decide)]
        omega
      · right
        rw [e, show q1 = 2139095040 by omega]
        decide +kernel
    · right
      rw [h1]
      cases s <;> decide +kernel
theorem quo_inf {x : Nat} (hx : isNum .f32 x = true) : isNum .f32 (fop .quo .f32 x 2139095040) = true ∧ fv .f32 (fop .quo .f32 x 2139095040) = 0 := by
  obtain ⟨m, e, h1, _⟩ := isNum_read hx
  have h2 : FloatKind.f32.format.read 2139095040 = .infinity false := by decide +kernel
  have hr : floatBits .quo .f32 x 2139095040 = some (FloatKind.f32.format.nearest (sgn .f32 x ^^ false) 0 0) := by
    show FloatKind.f32.format.div x 2139095040 = _
    unfold Format.div
    rw [h1, h2]
    rfl
  rw [fop_some hr, nearest_eq]
  have h3 : nrung FloatKind.f32.format 0 0 = 0 := by unfold nrung; rfl
  rw [h3]
  refine ⟨word_isNum _ (by decide), ?_⟩
  rw [fv_word _ (by decide), rv_zero]
  split <;> rfl
theorem line_bq {c : Prop} {o : LineV} {x : Nat} (hh : isNum .f32 o.h = true) (hb : (fv .f32 o.h).natAbs ≤ 2 ^ 170) (hu : c ∨ isN .f32 (lineU o x) = false) : Bq c (2 ^ 171) (lineV o x) := by
  have hH : Bq c (2 ^ 170) o.h := .inr ⟨hh, hb⟩
  have hU : isN .f32 (lineU o x) = true ∨ ∃ s q, q ≤ 2139095040 ∧ lineU o x = FloatKind.f32.format.word s q := quo_word _ _
  have bell : Bq c (2 ^ 170) (bellV o x) := by
    unfold bellV
    have h1 := exp_bq (c := c) (neg_sq_ok (lineU o x)) (hu.imp id fun hn => by
      rcases sq_kind hU hn with ⟨a1, _⟩ | a1
      · obtain ⟨s, q, e, hq, _⟩ := fop_sub num0.1 a1
        rw [e]
        exact nn_word hq
      · rw [a1]
        decide +kernel)
    have := Bq.mul 1241513984 hH h1 (by rw [rv170]; exact Nat.le_refl _) (by decide)
    rwa [rv170] at this
  have hill : Bq c (2 ^ 170) (hillV o x) := by
    unfold hillV
    rcases Bool.eq_false_or_eq_true (isN .f32 (lineU o x)) with hn | hn
    · rcases hu with hc | hc
      · exact .inl ⟨hc, by rw [fop_nan_l (a := lineU o x) hn, fop_nan_r (b := nanOf .f32) (isN_nanOf _), fop_nan_r (isN_nanOf _)]; exact isN_nanOf _⟩
      · rw [hn] at hc; cases hc
    · have hD : (isNum .f32 (fop .add .f32 1065353216 (fop .mul .f32 (lineU o x) (lineU o x))) = true ∧ 2 ^ 149 ≤ (fv .f32 (fop .add .f32 1065353216 (fop .mul .f32 (lineU o x) (lineU o x)))).natAbs) ∨
          fop .add .f32 1065353216 (fop .mul .f32 (lineU o x) (lineU o x)) = 2139095040 := by
        rcases sq_kind hU hn with ⟨a1, a2⟩ | a1
        · obtain ⟨s, q, e, hq, _, n2, _, n4⟩ := fop_add num1.1 a1
          have v1 : fv .f32 1065353216 = ((2 ^ 149 : Nat) : Int) := by rw [num1.2]; rfl
          rw [v1] at n2 n4
          have p0 : 0 < (2 : Nat) ^ 149 := Nat.two_pow_pos _
          have hq1 : 1065353216 ≤ q := n4 _ (by decide) (by rw [rv149]; generalize (2 : Nat) ^ 149 = t at *; omega)
          have hs : s = false := n2 (by generalize (2 : Nat) ^ 149 = t at *; omega)
          have hi : FloatKind.f32.format.infRung = 2139095040 := by decide
          rcases Nat.lt_or_ge q FloatKind.f32.format.infRung with h2 | h2
          · left
            rw [e]
            exact ⟨word_isNum _ h2, by rw [fv_word_abs _ h2, ← rv149]; exact rv_le hq1⟩
          · right
            rw [e, hs, show q = 2139095040 by omega]
            decide +kernel
        · right
          rw [a1]
          decide +kernel
      rcases hD with ⟨d1, d2⟩ | d1
      · have := Bq.quo 1241513984 hH d1 d2 (Nat.two_pow_pos _) (by rw [rv170]; exact Nat.le_refl _) (by decide)
        rwa [rv170] at this
      · rw [d1]
        obtain ⟨a1, a2⟩ := quo_inf hh
        exact .inr ⟨a1, by rw [a2]; exact Nat.zero_le _⟩
  have h171 : (2 : Nat) ^ 170 ≤ 2 ^ 171 := Nat.pow_le_pow_right (by decide) (by decide)
  unfold lineV
  cases o.k == 0 with
  | true => exact bell.mono h171
  | false =>
  simp only [cond_false]
  cases o.k == 1 with
  | true => exact hill.mono h171
  | false =>
  simp only [cond_false]
  cases o.k == 2 with
  | true =>
    simp only [cond_true]
    have h1 := Bq.add 1249902592 bell hill (by rw [rv171, Nat.pow_succ]; omega) (by decide)
    rw [rv171] at h1
    have hhalf : Bq c (2 ^ 148) 1056964608 := .inr (by decide +kernel)
    have := Bq.mul 1249902592 hhalf h1 (by rw [rv171]; decide +kernel) (by decide)
    rwa [rv171] at this
  | false =>
    simp only [cond_false]
    rcases hU with hn | ⟨s, q, hq, hw⟩
    · rcases hu with hc | hc
      · have e1 : mag (lineU o x) = lineU o x := by
          unfold mag
          rw [fcmp_nan_l hn]
        rw [e1, fcmp_nan_l hn]
        exact .inl ⟨hc, by simp only [cond_false]; rw [fop_nan_r (b := lineU o x) hn, fop_nan_r (isN_nanOf _)]; exact isN_nanOf _⟩
      · rw [hn] at hc; cases hc
    · rcases word_kind2 (s := s) hq with h1 | h1
      · rw [← hw] at h1
        obtain ⟨m1, m2⟩ := mag_num h1
        rw [gtr_fv m1 num1.1]
        by_cases hg : fv .f32 1065353216 < fv .f32 (mag (lineU o x))
        · rw [decide_eq_true hg]
          exact .inr ⟨num0.1, by simp only [cond_true]; rw [num0.2]; exact Nat.zero_le _⟩
        · rw [decide_eq_false hg]
          simp only [cond_false]
          have v1 : fv .f32 1065353216 = ((2 ^ 149 : Nat) : Int) := by rw [num1.2]; rfl
          have hm : Bq c (2 ^ 149) (mag (lineU o x)) := .inr ⟨m1, by rw [v1] at hg; generalize (2 : Nat) ^ 149 = t at *; omega⟩
          have hone : Bq c (2 ^ 149) 1065353216 := .inr ⟨num1.1, by rw [v1]; exact Nat.le_refl _⟩
          have e150 : rv FloatKind.f32.format 1073741824 = 2 ^ 150 := by decide +kernel
          have h2 := Bq.sub 1073741824 hone hm (by rw [e150, Nat.pow_succ]; omega) (by decide)
          rw [e150] at h2
          have := Bq.mul 1249902592 hH h2 (by rw [rv171]; decide +kernel) (by decide)
          rwa [rv171] at this
      · rw [hw, h1]
        have : fcmp .gtr .f32 (mag (FloatKind.f32.format.word s 2139095040)) 1065353216 = true := by cases s <;> decide +kernel
        rw [this]
        exact .inr ⟨num0.1, by simp only [cond_true]; rw [num0.2]; exact Nat.zero_le _⟩
theorem lineU_nn {o : LineV} {x : Nat} (hx : isNum .f32 x = true) (hp : isNum .f32 o.p = true) (hw : isNum .f32 o.w = true) (hw0 : 0 < fv .f32 o.w) : isN .f32 (lineU o x) = false := by
  unfold lineU
  obtain ⟨s, q, e, hq, _⟩ := fop_sub hx hp
  rw [e]
  rcases word_kind2 (s := s) hq with h1 | h1
  · obtain ⟨q2, e2, hq2, _⟩ := fop_quo h1 hw (by omega)
    rw [e2]
    exact nn_word hq2
  · rw [h1]
    obtain ⟨m, ee, h3, _⟩ := isNum_read hw
    have h2 : FloatKind.f32.format.read (FloatKind.f32.format.word s 2139095040) = .infinity s := by cases s <;> decide +kernel
    have hr : floatBits .quo .f32 (FloatKind.f32.format.word s 2139095040) o.w = some (FloatKind.f32.format.write (.infinity (s ^^ sgn .f32 o.w))) := by
      show FloatKind.f32.format.div _ o.w = _
      unfold Format.div
      rw [h2, h3]
      rfl
    rw [fop_some hr]
    exact nn_word (Nat.le_of_eq (by decide))
end Go.Sm
namespace Go.Sm
open Go Ieee
theorem big0_small {v : Nat} (h : Bq True (2 ^ 129) v) : big0 v = false := by
  unfold big0
  rcases h with ⟨_, hn⟩ | ⟨hn, hb⟩
  · have e1 : mag v = v := by
      unfold mag
      rw [fcmp_nan_l hn]
    rw [e1, fcmp_nan_l hn]
  · obtain ⟨m1, m2⟩ := mag_num hn
    have n6 : isNum .f32 897988541 = true := by decide +kernel
    have v6 : ((2 ^ 129 : Nat) : Int) < fv .f32 897988541 := by decide +kernel
    rw [gtr_fv m1 n6]
    refine decide_eq_false ?_
    rw [m2]
    generalize (2 : Nat) ^ 129 = t at *
    omega
theorem zv_mul (x : Nat) {z : Nat} (hz : Bq True 0 z) : Bq True 0 (fop .mul .f32 x z) := by
  rcases word_kind .f32 x with h | ⟨s, h⟩ | h
  · have := Bq.mul (c := True) 0 (Bq.num h (Nat.le_refl _)) hz (by rw [Nat.mul_zero]; exact Nat.zero_le _) (by decide)
    rwa [rv_zero] at this
  · rcases hz with ⟨_, hn⟩ | ⟨hn, hb⟩
    · exact .inl ⟨trivial, by rw [fop_nan_r hn]; exact isN_nanOf _⟩
    · left
      refine ⟨trivial, ?_⟩
      obtain ⟨m, e, h1, h2⟩ := isNum_spell hn
      have hm : m = 0 := by
        rw [Nat.le_zero.1 hb] at h2
        rcases Nat.mul_eq_zero.1 h2.symm with h3 | h3
        · exact h3
        · have := Nat.two_pow_pos e; omega
      subst hm
      have hr : floatBits .mul .f32 x z = none := by
        show FloatKind.f32.format.mul x z = none
        unfold Format.mul
        rw [h, h1]
        rfl
      unfold fop
      rw [hr]
      exact isN_nanOf _
  · exact .inl ⟨trivial, by rw [fop_nan_l h]; exact isN_nanOf _⟩
section
variable {a0 a1 a2 a3 b0 b1 b2 b3 c0 c1 c2 c3 : Nat}
theorem solve_small (ha : Bq True (2 ^ 129) a0) (hb : Bq True (2 ^ 129) b0) (hc : Bq True (2 ^ 129) c0) : solveL [[a0, a1, a2, a3], [b0, b1, b2, b3], [c0, c1, c2, c3]] = none := by
  have hX : big0 (gE (pivX 0 [((0 : Nat), [a0, a1, a2, a3]), (0, [b0, b1, b2, b3]), (0, [c0, c1, c2, c3])]) 0 0) = false := by
    show big0 (gE (swapX [((0 : Nat), [a0, a1, a2, a3]), (0, [b0, b1, b2, b3]), (0, [c0, c1, c2, c3])] 0 (pivN 0 [((0 : Nat), [a0, a1, a2, a3]), (0, [b0, b1, b2, b3]), (0, [c0, c1, c2, c3])] 2 1 0)) 0 0) = false
    have hr := pivN_range 0 [((0 : Nat), [a0, a1, a2, a3]), (0, [b0, b1, b2, b3]), (0, [c0, c1, c2, c3])] 2 1 0 (by omega)
    generalize pivN 0 [((0 : Nat), [a0, a1, a2, a3]), (0, [b0, b1, b2, b3]), (0, [c0, c1, c2, c3])] 2 1 0 = p at *
    match p, hr with
    | 0, _ => exact big0_small ha
    | 1, _ => exact big0_small hb
    | 2, _ => exact big0_small hc
    | p + 3, hr => omega
  unfold solveL
  show (match gauss 3 0 [((0 : Nat), [a0, a1, a2, a3]), (0, [b0, b1, b2, b3]), (0, [c0, c1, c2, c3])] with
    | some Y => some (backX 3 0 Y)
    | none => none) = none
  unfold gauss
  rw [hX]
theorem flat_sb (q : Nat) {r p : Nat} (hr : Bq True 0 r) (hp : Bq True 0 p) : Bq True (2 ^ 129) (sb r q p) := by
  have := Bq.sub (c := True) 0 hr (zv_mul q hp) (Nat.zero_le _) (by decide)
  rw [rv_zero] at this
  exact this.mono (Nat.zero_le _)
theorem solve_flat (ha : Bq True 0 a1) (hb : Bq True 0 b1) (hc : Bq True 0 c1) : solveL [[a0, a1, a2, a3], [b0, b1, b2, b3], [c0, c1, c2, c3]] = none := by
  have step : ∀ Z : List RX, Z.length = 3 → Bq True (2 ^ 129) (gE Z 1 1) → Bq True (2 ^ 129) (gE Z 2 1) → big0 (gE (pivX 1 Z) 1 1) = false := by
    intro Z hZ h1 h2
    match Z, hZ with
    | [r0, r1, r2], _ =>
      show big0 (gE (swapX [r0, r1, r2] 1 (pivN 1 [r0, r1, r2] 1 2 1)) 1 1) = false
      have hr := pivN_range 1 [r0, r1, r2] 1 2 1 (by omega)
      generalize pivN 1 [r0, r1, r2] 1 2 1 = p at *
      match p, hr with
      | 0, hr => omega
      | 1, _ => exact big0_small h1
      | 2, _ => exact big0_small h2
      | p + 3, hr => omega
  have hX : big0 (gE (pivX 1 (elimX 0 (pivX 0 [((0 : Nat), [a0, a1, a2, a3]), (0, [b0, b1, b2, b3]), (0, [c0, c1, c2, c3])]))) 1 1) = false := by
    show big0 (gE (pivX 1 (elimX 0 (swapX [((0 : Nat), [a0, a1, a2, a3]), (0, [b0, b1, b2, b3]), (0, [c0, c1, c2, c3])] 0 (pivN 0 [((0 : Nat), [a0, a1, a2, a3]), (0, [b0, b1, b2, b3]), (0, [c0, c1, c2, c3])] 2 1 0)))) 1 1) = false
    have hr := pivN_range 0 [((0 : Nat), [a0, a1, a2, a3]), (0, [b0, b1, b2, b3]), (0, [c0, c1, c2, c3])] 2 1 0 (by omega)
    generalize pivN 0 [((0 : Nat), [a0, a1, a2, a3]), (0, [b0, b1, b2, b3]), (0, [c0, c1, c2, c3])] 2 1 0 = p at *
    match p, hr with
    | 0, _ => exact step _ rfl (flat_sb (fop .quo .f32 b0 a0) hb ha) (flat_sb (fop .quo .f32 c0 a0) hc ha)
    | 1, _ => exact step _ rfl (flat_sb (fop .quo .f32 a0 b0) ha hb) (flat_sb (fop .quo .f32 c0 b0) hc hb)
    | 2, _ => exact step _ rfl (flat_sb (fop .quo .f32 b0 c0) hb hc) (flat_sb (fop .quo .f32 a0 c0) ha hc)
    | p + 3, hr => omega
  have hg : gauss 3 0 [((0 : Nat), [a0, a1, a2, a3]), (0, [b0, b1, b2, b3]), (0, [c0, c1, c2, c3])] = none := by
    unfold gauss
    cases big0 (gE (pivX 0 [((0 : Nat), [a0, a1, a2, a3]), (0, [b0, b1, b2, b3]), (0, [c0, c1, c2, c3])]) 0 0) with
    | false => rfl
    | true =>
      dsimp only
      unfold gauss
      rw [hX]
  unfold solveL
  show (match gauss 3 0 [((0 : Nat), [a0, a1, a2, a3]), (0, [b0, b1, b2, b3]), (0, [c0, c1, c2, c3])] with
    | some Y => some (backX 3 0 Y)
    | none => none) = none
  rw [hg]
end
theorem dot_flat {xs ys : List Nat} (h : ∀ i, Bq True 0 (ys.getD i 0)) : Bq True 0 (dotP xs ys) := by
  have key : ∀ (m j s : Nat), Bq True 0 s → Bq True 0 (rep (dotF xs ys) m j s) := by
    intro m
    induction m with
    | zero => intro j s hs; exact hs
    | succ m ih =>
      intro j s hs
      rw [rep_succ]
      refine ih _ _ ?_
      have := Bq.add (c := True) 0 hs (zv_mul (xs.getD j 0) (h j)) (Nat.zero_le _) (by decide)
      rwa [rv_zero] at this
  exact key _ _ _ (Bq.num num0.1 (by rw [num0.2]; exact Nat.zero_le _))
def zS (j : Nat) : Nat := nrung FloatKind.f32.format j (-28)
theorem zS_tab : (List.range 129).all (fun j => Nat.beq (rv FloatKind.f32.format (zS j)) (j * 2 ^ 121) && Nat.blt (zS j) 2139095040) = true := by decide +kernel
theorem zS_ok {j : Nat} (h : j ≤ 128) : rv FloatKind.f32.format (zS j) = j * 2 ^ 121 ∧ zS j < 2139095040 := by
  have := List.all_eq_true.1 zS_tab j (List.mem_range.2 (by omega))
  rw [Bool.and_eq_true] at this
  exact ⟨Nat.eq_of_beq_eq_true this.1, Nat.le_of_ble_eq_true this.2⟩
theorem rv121 : rv FloatKind.f32.format 830472192 = 2 ^ 121 := by decide +kernel
theorem dot_bound {xs ys : List Nat} (hn : xs.length ≤ 128) (hx : ∀ i, Bq True (2 ^ 178) (xs.getD i 0)) (hy : ∀ i, Bq True (2 ^ 92) (ys.getD i 0)) : Bq True (2 ^ 128) (dotP xs ys) := by
  have key : ∀ (m j s : Nat), j + m ≤ 128 → Bq True (j * 2 ^ 121) s → Bq True ((j + m) * 2 ^ 121) (rep (dotF xs ys) m j s) := by
    intro m
    induction m with
    | zero => intro j s _ hs; exact hs
    | succ m ih =>
      intro j s hj hs
      rw [rep_succ]
      obtain ⟨z1, z2⟩ := zS_ok (j := j + 1) (by omega)
      have h1 := Bq.mul 830472192 (hx j) (hy j) (by rw [rv121]; decide +kernel) (by decide)
      rw [rv121] at h1
      have h2 := Bq.add (zS (j + 1)) hs h1 (by rw [z1, Nat.add_mul, Nat.one_mul]; exact Nat.le_refl _) z2
      rw [z1] at h2
      have := ih (j + 1) _ (by omega) h2
      rw [show j + 1 + m = j + (m + 1) by omega] at this
      exact this
  have := key xs.length 0 0 (by omega) (Bq.num num0.1 (by rw [num0.2]; exact Nat.zero_le _))
  refine this.mono ?_
  have e : (2 : Nat) ^ 128 = 128 * 2 ^ 121 := by decide
  rw [e, Nat.zero_add]
  exact Nat.mul_le_mul_right _ hn
theorem rowS_map (u l : LineV) (s b d n : Nat) : rowS u l s b d n = (fromTo 0 n).map fun (i : Nat) => fop .quo .f32 (fop .sub .f32 (lineV u (placeAt b d (i : Int))) (lineV l (placeAt b d (i : Int)))) s := by
  have := rep_map (fun (i : Nat) => fop .quo .f32 (fop .sub .f32 (lineV u (placeAt b d (i : Int))) (lineV l (placeAt b d (i : Int)))) s) n 0 []
  rw [List.nil_append] at this
  exact this
theorem from_get {n i : Nat} (h : i < n) : (fromTo 0 n)[i]? = some i := by
  unfold fromTo
  rw [List.getElem?_range' h]
  simp
theorem rowS_all {Q : Nat → Prop} {u l : LineV} {s b d n : Nat} (h0 : Q 0) (h : ∀ j : Nat, j < n → Q (fop .quo .f32 (fop .sub .f32 (lineV u (placeAt b d (j : Int))) (lineV l (placeAt b d (j : Int)))) s)) (i : Nat) : Q ((rowS u l s b d n).getD i 0) := by
  rw [rowS_map, List.getD_eq_getElem?_getD, List.getElem?_map]
  rcases Nat.lt_or_ge i n with hi | hi
  · rw [from_get hi]
    exact h i hi
  · rw [List.getElem?_eq_none (by rw [fromTo_len]; exact hi)]
    exact h0
theorem rowV_get (u : LineV) (b d : Nat) {n i : Nat} (h : i < n) : (rowV u b d n)[i]? = some (lineV u (placeAt b d (i : Int))) := by
  unfold rowV
  rw [List.getElem?_map, from_get h]
  rfl
theorem div_get (now : List Nat) (s : Nat) : ∀ (m j : Nat) (zs : List Nat) (i : Nat), (rep (divF now s) m j zs)[i]? = if j ≤ i ∧ i < j + m then zs[i]?.map (fun z => fop .quo .f32 (fop .sub .f32 z (now.getD i 0)) s) else zs[i]?
  | 0, j, zs, i => by
    rw [if_neg (by omega)]
    rfl
  | m + 1, j, zs, i => by
    rw [rep_succ, div_get now s m (j + 1)]
    unfold divF
    rw [List.getElem?_set]
    by_cases h1 : j = i
    · subst h1
      rw [if_neg (show ¬ (j + 1 ≤ j ∧ j < j + 1 + m) by omega), if_pos rfl, if_pos (show j ≤ j ∧ j < j + (m + 1) by omega)]
      by_cases h2 : j < zs.length
      · rw [if_pos h2, List.getElem?_eq_getElem h2]
        simp [List.getD, h2]
      · rw [if_neg h2, List.getElem?_eq_none (by omega)]
        rfl
    · rw [if_neg h1]
      by_cases h2 : j + 1 ≤ i ∧ i < j + 1 + m
      · rw [if_pos h2, if_pos (show j ≤ i ∧ i < j + (m + 1) by omega)]
      · rw [if_neg h2, if_neg (show ¬ (j ≤ i ∧ i < j + (m + 1)) by omega)]
theorem div_row (o l : LineV) (s b d n : Nat) : divR (rowV l b d n) s (rowV o b d n) = rowS o l s b d n := by
  refine List.ext_getElem? fun i => ?_
  unfold divR
  rw [rowV_len, div_get, rowS_map, List.getElem?_map]
  rcases Nat.lt_or_ge i n with hi | hi
  · rw [if_pos (by omega), rowV_get o b d hi, from_get hi, List.getD_eq_getElem?_getD, rowV_get l b d hi]
    rfl
  · rw [if_neg (by omega), List.getElem?_eq_none (by rw [rowV_len]; exact hi), List.getElem?_eq_none (by rw [fromTo_len]; exact hi)]
    rfl
theorem sub_rest (ys : List Nat) (l : LineV) (b d : Nat) : subR ys (rowV l b d ys.length) = rep (restF ys l b d) ys.length 0 [] := by
  unfold subR
  refine rep_congr (lo := 0) (hi := ys.length) (fun j s _ hj => ?_) _ _ _ (Nat.le_refl _) (by omega)
  unfold subF restF
  rw [List.getD_eq_getElem?_getD (l := rowV l b d ys.length), rowV_get l b d hj]
  rfl
end Go.Sm
namespace Go.Sm
open Go Ieee
theorem num6 : isNum .f32 1015021568 = true ∧ fv .f32 1015021568 = 2 ^ 143 := by decide +kernel
theorem okLine_num {l : LineV} (h : okLine l = true) : isNum .f32 l.p = true ∧ isNum .f32 l.h = true ∧ isNum .f32 l.w = true ∧ 0 < fv .f32 l.w ∧ within l.k 0 3 = true := by
  unfold okLine above at h
  simp only [Bool.and_eq_true] at h
  obtain ⟨⟨⟨h1, h2⟩, h3, h4⟩, h5⟩ := h
  rw [fin_isNum] at h1 h2 h3
  rw [gtr_fv h3 num0.1, num0.2] at h4
  exact ⟨h1, h2, h3, of_decide_eq_true h4, h5⟩
theorem num_okLine {l : LineV} (h1 : isNum .f32 l.p = true) (h2 : isNum .f32 l.h = true) (h3 : isNum .f32 l.w = true) (h4 : 0 < fv .f32 l.w) (h5 : within l.k 0 3 = true) : okLine l = true := by
  unfold okLine above
  rw [fin_isNum, fin_isNum, fin_isNum, h1, h2, h3, gtr_fv h3 num0.1, num0.2, decide_eq_true h4, h5]
  rfl
theorem num_abs {x : Nat} (h : isNum .f32 x = true) : (fv .f32 x).natAbs ≤ rv FloatKind.f32.format 2139095039 := by
  rw [fv_natAbs]
  have hi : FloatKind.f32.format.infRung = 2139095040 := by decide
  exact rv_le (by have := isNum_lt h; omega)
theorem small_num {w : Nat} (h : isNum .f32 w = true) : isNum .f32 (smallW w) = true := by
  have := Bq.mul (c := False) 2139095039 (Bq.num h (num_abs h)) (Bq.num (B := 2 ^ 143) num6.1 (by rw [num6.2]; exact Nat.le_of_eq rfl)) (Nat.mul_le_mul_left _ (Nat.pow_le_pow_right (by decide) (by decide))) (by decide)
  rcases this with ⟨h, _⟩ | ⟨h, _⟩
  · exact h.elim
  · exact h
theorem word_lt {s : Bool} {q : Nat} (hq : q ≤ 2139095040) (h : isNum .f32 (FloatKind.f32.format.word s q) = true) : q < 2139095040 := by
  have h1 := isNum_lt h
  have e1 : FloatKind.f32.format.infRung = 2139095040 := by decide
  rw [word_mod _ _ (Nat.lt_of_le_of_lt (by omega) (inf_lt_sw .f32))] at h1
  omega
theorem rv229 : rv FloatKind.f32.format 1736441856 = 2 ^ 229 := by decide +kernel
theorem rv237 : rv FloatKind.f32.format 1803550720 = 2 ^ 237 := by decide +kernel
theorem width_le {w : Nat} (h : isNum .f32 w = true) (hs : (fv .f32 (smallW w)).natAbs < 2 ^ 229) : (fv .f32 w).natAbs ≤ 2 ^ 236 := by
  refine Nat.not_lt.1 fun hlt => ?_
  have hn := small_num h
  obtain ⟨q, e, hq, _, n4⟩ := fop_mul h num6.1
  have hlp : lp .f32 = 149 := by decide
  have hi : FloatKind.f32.format.infRung = 2139095040 := by decide
  have hz : 1736441856 ≤ q := n4 _ (by decide) (by
    rw [rv229, hlp, num6.2]
    have e1 : (2 : Nat) ^ 229 * 2 ^ 149 ≤ 2 ^ 236 * 2 ^ 143 := by decide +kernel
    exact Nat.le_trans e1 (Nat.mul_le_mul (Nat.le_of_lt hlt) (Nat.le_of_eq rfl)))
  unfold smallW at hs hn
  rw [e] at hs hn
  rw [fv_word_abs _ (by rw [hi]; exact word_lt (by omega) hn), ← rv229] at hs
  have := rv_le (f := FloatKind.f32.format) hz
  omega
theorem wider {w : Nat} (h : isNum .f32 w = true) (h0 : 0 < fv .f32 w) (hw : (fv .f32 w).natAbs ≤ 2 ^ 236) : isNum .f32 (fop .mul .f32 w 1065484288) = true ∧ 0 < fv .f32 (fop .mul .f32 w 1065484288) := by
  have c1 : isNum .f32 1065484288 = true ∧ (fv .f32 1065484288).natAbs ≤ 2 ^ 150 ∧ 2 ^ 149 ≤ (fv .f32 1065484288).natAbs ∧ sgn .f32 1065484288 = false := by decide +kernel
  have hn : isNum .f32 (fop .mul .f32 w 1065484288) = true := by
    have := Bq.mul (c := False) 1803550720 (Bq.num h hw) (Bq.num c1.1 c1.2.1) (by rw [rv237]; decide +kernel) (by decide)
    rcases this with ⟨h, _⟩ | ⟨h, _⟩
    · exact h.elim
    · exact h
  obtain ⟨q, e, hq, _, n4⟩ := fop_mul h c1.1
  have hlp : lp .f32 = 149 := by decide
  have hi : FloatKind.f32.format.infRung = 2139095040 := by decide
  have h1 : 1 ≤ q := n4 1 (by decide) (by
    have : rv FloatKind.f32.format 1 = 1 := by decide +kernel
    rw [this, hlp, Nat.one_mul]
    exact Nat.le_trans c1.2.2.1 (Nat.le_mul_of_pos_left _ (by omega)))
  refine ⟨hn, ?_⟩
  rw [e] at hn ⊢
  have hlt := word_lt (by omega) hn
  rw [sgn_pos h0, c1.2.2.2, fv_word _ (Nat.lt_trans (by rw [hi]; exact hlt) (inf_lt_sw .f32))]
  have := rv_one_le (f := FloatKind.f32.format) h1
  show 0 < (rv FloatKind.f32.format q : Int)
  omega
theorem row_all {o l : LineV} {b d n : Nat} (hl : rowAll l b d n = true) (ho : okLine o = true) (hh : (fv .f32 o.h).natAbs ≤ 2 ^ 170) : rowAll o b d n = true := by
  unfold rowAll at *
  rw [List.all_eq_true] at *
  intro j hj
  have h1 := hl j hj
  unfold lineOk at *
  simp only [Bool.and_eq_true] at *
  obtain ⟨n1, n2, n3, n4, _⟩ := okLine_num ho
  have hx : isNum .f32 (placeAt b d (j : Int)) = true := by rw [← fin_isNum]; exact h1.2.1
  refine ⟨ho, h1.2.1, ?_⟩
  rcases line_bq (c := False) n2 hh (.inr (lineU_nn hx n1 n3 n4)) with ⟨h, _⟩ | ⟨h, _⟩
  · exact h.elim
  · rw [fin_isNum]
    exact h
theorem fop_readQ {x y z : Nat} (h : FloatKind.f32.format.read y = FloatKind.f32.format.read z) : fop .quo .f32 y x = fop .quo .f32 z x := by
  unfold fop
  have : floatBits .quo .f32 y x = floatBits .quo .f32 z x := by
    show FloatKind.f32.format.div y x = FloatKind.f32.format.div z x
    unfold Format.div
    rw [h]
  rw [this]
theorem line_read {l : LineV} {h' x : Nat} (h : FloatKind.f32.format.read h' = FloatKind.f32.format.read l.h) : lineV ⟨l.p, h', l.w, l.k⟩ x = lineV l x := by
  have e1 : bellV ⟨l.p, h', l.w, l.k⟩ x = bellV l x := fop_readL h
  have e2 : hillV ⟨l.p, h', l.w, l.k⟩ x = hillV l x := fop_readQ h
  unfold lineV
  rw [e1, e2]
  show (bif l.k == 0 then _ else bif l.k == 1 then _ else bif l.k == 2 then _ else bif fcmp .gtr .f32 (mag (lineU l x)) 1065353216 then 0 else fop .mul .f32 h' (fop .sub .f32 1065353216 (mag (lineU l x)))) = _
  rw [fop_readL h]
theorem ch_three (l : LineV) (b d n : Nat) (now : List Nat) : repE (chF (alts l) (byS l) b d n now) 3 0 [] =
    bif rowAll ((alts l).getD 0 noLine) b d n && (rowAll ((alts l).getD 1 noLine) b d n && rowAll ((alts l).getD 2 noLine) b d n) then
      some [divR now (smallW l.w) (rowV ((alts l).getD 0 noLine) b d n), divR now 1015021568 (rowV ((alts l).getD 1 noLine) b d n), divR now (smallW l.w) (rowV ((alts l).getD 2 noLine) b d n)] else none := by
  rw [repE_succ]
  unfold chF
  cases rowAll ((alts l).getD 0 noLine) b d n with
  | false => rfl
  | true =>
    simp only [cond_true, Bool.true_and]
    rw [repE_succ]
    simp only [Nat.reduceAdd]
    cases rowAll ((alts l).getD 1 noLine) b d n with
    | false => rfl
    | true =>
      simp only [cond_true, Bool.true_and]
      rw [repE_succ]
      simp only [Nat.reduceAdd]
      cases rowAll ((alts l).getD 2 noLine) b d n <;> rfl
theorem rv92 : rv FloatKind.f32.format 587202560 = 2 ^ 92 := by decide +kernel
theorem rv178 : rv FloatKind.f32.format 1308622848 = 2 ^ 178 := by decide +kernel
theorem rv129 : rv FloatKind.f32.format 897581056 = 2 ^ 129 := by decide +kernel
theorem ch_same {l : LineV} {ys : List Nat} {b d : Nat} (hr : restOk [l] ys b d = true) : chL l ys b d = chS l ys b d := by
  unfold restOk at hr
  simp only [Bool.and_eq_true] at hr
  obtain ⟨r1, r2, _, _, r5, _⟩ := hr
  have hk : okLine l = true := by
    unfold linesOk at r1
    simpa using r1
  have hall : rowAll l b d ys.length = true := by rw [← spAll_one]; exact r5
  have hn : ys.length ≤ 128 := by
    unfold listOk at r2
    simp only [Bool.and_eq_true, decide_eq_true_eq] at r2
    exact r2.2.1
  obtain ⟨n1, n2, n3, n4, n5⟩ := okLine_num hk
  generalize hlen : ys.length = n at *
  have hC : chL l ys b d = match repE (chF (alts l) (byS l) b d n (rowV l b d n)) 3 0 [] with
      | some gs => solveL (diagX 0 (gram gs (subR ys (rowV l b d n))))
      | none => none := by
    unfold chL
    rw [hlen, hall]
    rfl
  have hS : chS l ys b d = solveL (diagX 0 (gram [rowS ((alts l).getD 0 noLine) l (smallW l.w) b d n, rowS ((alts l).getD 1 noLine) l 1015021568 b d n, rowS ((alts l).getD 2 noLine) l (smallW l.w) b d n] (rep (restF ys l b d) n 0 []))) := by
    unfold chS
    rw [hlen]
    rfl
  rw [hC, ch_three]
  cases hA : (rowAll ((alts l).getD 0 noLine) b d n && (rowAll ((alts l).getD 1 noLine) b d n && rowAll ((alts l).getD 2 noLine) b d n)) with
  | true =>
    simp only [cond_true]
    rw [hS, div_row, div_row, div_row, ← hlen, sub_rest, hlen]
  | false =>
    simp only [cond_false]
    symm
    rw [hS]
    have hfin : ∀ j : Nat, j < n → isNum .f32 (lineV l (placeAt b d (j : Int))) = true ∧ isNum .f32 (placeAt b d (j : Int)) = true := by
      intro j hj
      have hm : j ∈ fromTo 0 n := List.mem_of_getElem? (from_get hj)
      have := List.all_eq_true.1 hall j hm
      unfold lineOk at this
      simp only [Bool.and_eq_true, fin_isNum] at this
      exact ⟨this.2.2, this.2.1⟩
    by_cases hbig : 2 ^ 169 ≤ (fv .f32 l.h).natAbs
    · -- the second row is naught
      obtain ⟨a1, a2⟩ := absorb n2 num6.1 hbig (by rw [num6.2]; exact Nat.le_of_eq rfl)
      have hrd := read_fv a2 (by
        rw [a2]
        have := Nat.two_pow_pos 169
        omega)
      have hf : ∀ i, Bq True 0 ((rowS ((alts l).getD 1 noLine) l 1015021568 b d n).getD i 0) := rowS_all (Bq.num num0.1 (by rw [num0.2]; exact Nat.zero_le _)) fun j hj => by
        have e1 : lineV ((alts l).getD 1 noLine) (placeAt b d (j : Int)) = lineV l (placeAt b d (j : Int)) := line_read hrd
        rw [e1]
        have h1 := (hfin j hj).1
        have h2 : Bq True 0 (fop .sub .f32 (lineV l (placeAt b d (j : Int))) (lineV l (placeAt b d (j : Int)))) := by
          obtain ⟨s, q, e, _, _, _, n3, _⟩ := fop_sub h1 h1
          have : q ≤ 0 := n3 0 (by rw [Int.sub_self]; exact Nat.zero_le _)
          have : q = 0 := Nat.le_zero.1 this
          subst this
          rw [e]
          exact .inr ⟨word_isNum _ (by decide), by rw [fv_word_abs _ (by decide), rv_zero]; exact Nat.le_refl _⟩
        have h3 := Bq.quo (W := 2 ^ 143) 0 h2 num6.1 (by rw [num6.2]; exact Nat.le_of_eq rfl) (Nat.two_pow_pos _) (by rw [Nat.zero_mul]; exact Nat.zero_le _) (by decide)
        rwa [rv_zero] at h3
      have c1 : isNum .f32 1065615360 = true := by decide +kernel
      have hm := Bq.mul (c := True) 0 (dot_flat (xs := rowS ((alts l).getD 1 noLine) l 1015021568 b d n) hf) (Bq.num c1 (Nat.le_refl _)) (by rw [Nat.zero_mul]; exact Nat.zero_le _) (by decide)
      rw [rv_zero] at hm
      exact solve_flat (dot_flat hf) hm (dot_flat hf)
    · -- the width is great
      have hb2 : (fv .f32 l.h).natAbs ≤ 2 ^ 170 := Nat.le_trans (Nat.le_of_lt (Nat.lt_of_not_le hbig)) (Nat.pow_le_pow_right (by decide) (by decide))
      have hh1 : isNum .f32 (fop .add .f32 l.h 1015021568) = true ∧ (fv .f32 (fop .add .f32 l.h 1015021568)).natAbs ≤ 2 ^ 170 := by
        have := Bq.add (c := False) 1241513984 (Bq.num n2 (Nat.le_of_lt (Nat.lt_of_not_le hbig))) (Bq.num (B := 2 ^ 143) num6.1 (by rw [num6.2]; exact Nat.le_of_eq rfl)) (by rw [rv170]; decide +kernel) (by decide)
        rw [rv170] at this
        rcases this with ⟨h, _⟩ | h
        · exact h.elim
        · exact h
      have hsm : 2 ^ 229 ≤ (fv .f32 (smallW l.w)).natAbs := by
        refine Nat.not_lt.1 fun hlt => ?_
        have k0 : rowAll ((alts l).getD 0 noLine) b d n = true := row_all hall (num_okLine (not_over n1 (small_num n3) (Nat.le_of_lt hlt)) n2 n3 n4 n5) hb2
        have k1 : rowAll ((alts l).getD 1 noLine) b d n = true := row_all hall (num_okLine n1 hh1.1 n3 n4 n5) hh1.2
        obtain ⟨w1, w2⟩ := wider n3 n4 (width_le n3 hlt)
        have k2 : rowAll ((alts l).getD 2 noLine) b d n = true := row_all hall (num_okLine n1 n2 w1 w2 n5) hb2
        rw [k0, k1, k2] at hA
        cases hA
      have hl : ∀ j : Nat, Bq True (2 ^ 171) (lineV l (placeAt b d (j : Int))) := fun j => line_bq n2 hb2 (.inl trivial)
      have hsub : ∀ (o : LineV) (j : Nat), isNum .f32 o.h = true → (fv .f32 o.h).natAbs ≤ 2 ^ 170 → Bq True (2 ^ 172) (fop .sub .f32 (lineV o (placeAt b d (j : Int))) (lineV l (placeAt b d (j : Int)))) := fun o j h1 h2 => by
        have := Bq.sub 1258291200 (line_bq (c := True) (x := placeAt b d (j : Int)) h1 h2 (.inl trivial)) (hl j) (by rw [rv172]; decide +kernel) (by decide)
        rwa [rv172] at this
      have hz : ∀ B, Bq True B 0 := fun B => Bq.num num0.1 (by rw [num0.2]; exact Nat.zero_le _)
      have wide : ∀ o : LineV, isNum .f32 o.h = true → (fv .f32 o.h).natAbs ≤ 2 ^ 170 → ∀ i, Bq True (2 ^ 92) ((rowS o l (smallW l.w) b d n).getD i 0) := fun o h1 h2 => rowS_all (hz _) fun j _ => by
        have := Bq.quo 587202560 (hsub o j h1 h2) (small_num n3) hsm (Nat.two_pow_pos _) (by rw [rv92]; decide +kernel) (by decide)
        rwa [rv92] at this
      have h12 : (2 : Nat) ^ 92 ≤ 2 ^ 178 := Nat.pow_le_pow_right (by decide) (by decide)
      have f0 := wide ((alts l).getD 0 noLine) n2 hb2
      have f2 := wide ((alts l).getD 2 noLine) n2 hb2
      have f1 : ∀ i, Bq True (2 ^ 178) ((rowS ((alts l).getD 1 noLine) l 1015021568 b d n).getD i 0) := rowS_all (hz _) fun j _ => by
        have := Bq.quo (W := 2 ^ 143) 1308622848 (hsub ((alts l).getD 1 noLine) j hh1.1 hh1.2) num6.1 (by rw [num6.2]; exact Nat.le_of_eq rfl) (Nat.two_pow_pos _) (by rw [rv178]; decide +kernel) (by decide)
        rwa [rv178] at this
      have d0 := dot_bound (by rw [rowS_len]; exact hn) (fun i => (f0 i).mono h12) f0
      have d1 := dot_bound (by rw [rowS_len]; exact hn) f1 f0
      have d2 := dot_bound (by rw [rowS_len]; exact hn) (fun i => (f2 i).mono h12) f0
      have c1 : isNum .f32 1065615360 = true ∧ (fv .f32 1065615360).natAbs ≤ 2 ^ 150 := by decide +kernel
      have m0 := Bq.mul 897581056 d0 (Bq.num c1.1 c1.2) (by rw [rv129]; decide +kernel) (by decide)
      rw [rv129] at m0
      have h89 : (2 : Nat) ^ 128 ≤ 2 ^ 129 := Nat.pow_le_pow_right (by decide) (by decide)
      exact solve_small m0 (d1.mono h89) (d2.mono h89)
theorem next_ok {l : LineV} {ys : List Nat} {b d : Nat} (hy : listOk ys 1 = true) (hb : fin b = true) (hd : fin d = true) : restOk [l] ys b d = (okLine l && (spAll [l] b d ys.length && fin (restSum [l] ys b d))) := by
  unfold restOk
  have : linesOk [l] = okLine l := by simp [linesOk]
  rw [this, hy, hb, hd]
  rfl
theorem stepI_eq (ys : List Nat) (b d : Nat) (l : LineV) (r : Nat) : stepI ys b d l r = match chL l ys b d with
  | none => none
  | some c => bif restOk [nextL l c] ys b d && fcmp .lss .f32 (restSum [nextL l c] ys b d) r then some (some (nextL l c, restSum [nextL l c] ys b d)) else some none := by
  unfold stepI
  rfl
theorem stepS_eq (ys : List Nat) (b d : Nat) (l : LineV) (r : Nat) : stepS ys b d l r = match chS l ys b d with
  | none => none
  | some c => bif okLine (nextL l c) && (spAll [nextL l c] b d ys.length && (fin (restSum [nextL l c] ys b d) && !fcmp .geq .f32 (restSum [nextL l c] ys b d) r)) then some (some (nextL l c, restSum [nextL l c] ys b d)) else some none := by
  unfold stepS
  rfl
theorem less_geq {q r : Nat} (h3 : fin q = true) (hr : fin r = true) : fcmp .lss .f32 q r = !fcmp .geq .f32 q r := by
  rw [fin_isNum] at h3 hr
  rw [fcmp_num_lss h3 hr, fcmp_num_geq h3 hr]
  by_cases hlt : fv .f32 q < fv .f32 r
  · rw [decide_eq_true hlt, decide_eq_false (by omega)]
    rfl
  · rw [decide_eq_false hlt, decide_eq_true (by omega)]
    rfl
theorem rounds_same {ys : List Nat} {b d : Nat} (hy : listOk ys 1 = true) (hb : fin b = true) (hd : fin d = true) (m : Nat) : ∀ (l : LineV) (r : Nat), restOk [l] ys b d = true → fin r = true → fitRun (stepI ys b d) m l r = fitRun (stepS ys b d) m l r := by
  induction m with
  | zero => intro l r _ _; unfold fitRun; rfl
  | succ m ih =>
    intro l r hl hr
    rw [fitRun_succ, fitRun_succ, stepI_eq, stepS_eq, ch_same hl]
    generalize chS l ys b d = C
    cases C with
    | none => simp only
    | some c =>
      simp only
      rw [next_ok hy hb hd]
      have hN := next_ok (l := nextL l c) hy hb hd
      generalize nextL l c = N at *
      cases h1 : okLine N with
      | false => simp only [Bool.false_and, cond_false]
      | true =>
      cases h2 : spAll [N] b d ys.length with
      | false => simp only [Bool.false_and, Bool.and_false, cond_false]
      | true =>
      cases h3 : fin (restSum [N] ys b d) with
      | false => simp only [Bool.false_and, Bool.and_false, cond_false]
      | true =>
        rw [less_geq h3 hr]
        cases fcmp .geq .f32 (restSum [N] ys b d) r with
        | true => simp only [Bool.not_true, Bool.and_false, cond_false]
        | false =>
          simp only [Bool.not_false, Bool.and_self, cond_true]
          exact ih N _ (by rw [hN, h1, h2, h3]; rfl) h3
theorem fl_same (l : LineV) (ys : List Nat) (b d : Nat) (n : Int) : flI l ys b d n = flS l ys b d n := by
  unfold flI flS
  cases h : flIn l ys b d n with
  | false => rfl
  | true =>
    simp only [cond_true]
    unfold flIn at h
    simp only [Bool.and_eq_true] at h
    obtain ⟨⟨_, _, hb, hd, _⟩, hr⟩ := h
    have hr2 := hr
    unfold restOk at hr2
    simp only [Bool.and_eq_true] at hr2
    exact rounds_same hr2.2.1 hb hd _ _ _ hr hr2.2.2.2.2.2
end Go.Sm
