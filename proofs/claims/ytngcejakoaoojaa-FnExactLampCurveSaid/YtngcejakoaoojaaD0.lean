/- The table of the types. -/
import Derived.Test.YtngcejakoaoojaaK9
import Derived.Test.YtngcejakoaoojaaProg
import Derived.KernelRfl
namespace Go.Sm.Ytngcejakoaoojaa
open Go Go.Sm Go.RowKit Go.Proofs

def tab : Tab := ⟨[(22, 57), (25, 55), (28, 29), (30, 2), (39, 72), (43, 70), (67, 4), (80, 28)],
  [(2, .i64), (3, .i64), (4, .bo), (5, .u8), (29, .f32), (51, .f64), (55, .line), (57, .line), (70, .edge), (72, .edge)],
  [(2, .int .i64), (3, .int .i64), (4, .bool), (5, .int .u8), (21, .int .i32), (29, .float .f32), (51, .float .f64), (90, .int .u32), (92, .int .u64)]⟩
def muts (f : Nat) : Bool := memN f [18]
def S0 : SFn := noS
def M0 : MFn := noM
def T0 : TT := tab.T S0 muts M0
theorem tabok : tabB Try.prog tab = true := by kernel_rfl
theorem tok0 : TOK Try.prog T0 := (tab_ok tabok).tok (fun _ _ _ _ h => by cases h) (fun _ _ _ _ _ h => by cases h)

end Go.Sm.Ytngcejakoaoojaa
