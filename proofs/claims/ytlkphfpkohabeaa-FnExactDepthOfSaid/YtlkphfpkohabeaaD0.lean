/- The table of the types. -/
import Derived.Test.YtlkphfpkohabeaaG6
import Derived.Test.YtlkphfpkohabeaaX1
import Derived.Test.YtlkphfpkohabeaaProg
import Derived.KernelRfl
namespace Go.Sm.Ytlkphfpkohabeaa
open Go Go.Sm Go.RowKit Go.Proofs

def tab : Tab := ⟨[(22, 30), (29, 46), (32, 49), (39, 2), (57, 100), (60, 98), (95, 4)],
  [(2, .i64), (3, .i64), (4, .bo), (5, .u8), (30, .f32), (46, .line), (49, .line), (52, .f64), (98, .edge), (100, .edge), (113, .c64)],
  [(2, .int .i64), (3, .int .i64), (4, .bool), (5, .int .u8), (21, .int .i32), (30, .float .f32), (52, .float .f64), (113, .complex .f32), (128, .int .u64), (131, .int .u32), (134, .int .u64)]⟩
def muts (f : Nat) : Bool := memN f [19]
def S0 : SFn := noS
def M0 : MFn := noM
def T0 : TT := tab.T S0 muts M0
theorem tabok : tabB Try.prog tab = true := by kernel_rfl
theorem tok0 : TOK Try.prog T0 := (tab_ok tabok).tok (fun _ _ _ _ h => by cases h) (fun _ _ _ _ _ h => by cases h)

end Go.Sm.Ytlkphfpkohabeaa
