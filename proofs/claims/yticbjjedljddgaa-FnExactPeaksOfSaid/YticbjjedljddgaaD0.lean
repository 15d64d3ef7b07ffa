/- The table of the types. -/
import Derived.Test.YticbjjedljddgaaK5
import Derived.Test.YticbjjedljddgaaL1
import Derived.Test.YticbjjedljddgaaProg
import Derived.KernelRfl
namespace Go.Sm.Yticbjjedljddgaa
open Go Go.Sm Go.RowKit Go.Proofs

def tab : Tab := ⟨[(22, 23), (24, 2), (36, 4)],
  [(2, .i64), (3, .i64), (4, .bo), (5, .u8), (23, .f32), (42, .f64)],
  [(2, .int .i64), (3, .int .i64), (4, .bool), (5, .int .u8), (21, .int .i32), (23, .float .f32), (42, .float .f64), (47, .int .u64), (59, .int .u32), (61, .int .u64)]⟩
def muts (f : Nat) : Bool := memN f [9, 10, 18, 20]
def S0 : SFn := noS
def M0 : MFn := noM
def T0 : TT := tab.T S0 muts M0
theorem tabok : tabB Try.prog tab = true := by kernel_rfl
theorem tok0 : TOK Try.prog T0 := (tab_ok tabok).tok (fun _ _ _ _ h => by cases h) (fun _ _ _ _ _ h => by cases h)

end Go.Sm.Yticbjjedljddgaa
