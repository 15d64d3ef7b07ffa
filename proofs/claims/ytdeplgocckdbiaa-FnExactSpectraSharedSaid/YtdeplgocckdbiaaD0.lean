/- The table of the types. -/
import Derived.Test.YtdeplgocckdbiaaK7
import Derived.Test.YtdeplgocckdbiaaProg
import Derived.KernelRfl
namespace Go.Sm.Ytdeplgocckdbiaa
open Go Go.Sm Go.RowKit Go.Proofs

def tab : Tab := ⟨[(22, 30), (29, 66), (33, 67), (47, 102), (55, 29), (59, 33), (73, 2), (83, 5), (86, 93), (127, 22), (139, 4)],
  [(2, .i64), (3, .i64), (4, .bo), (5, .u8), (30, .f32), (41, .f64), (46, .pulse), (50, .pulse), (66, .line), (67, .line), (93, .edge), (102, .c64)],
  [(2, .int .i64), (3, .int .i64), (4, .bool), (5, .int .u8), (21, .int .i32), (30, .float .f32), (41, .float .f64), (102, .complex .f32), (125, .complex .f64), (174, .int .u64), (175, .int .u64), (181, .int .u32)]⟩
def muts (f : Nat) : Bool := memN f [19, 26, 57]
def S0 : SFn := noS
def M0 : MFn := noM
def T0 : TT := tab.T S0 muts M0
theorem tabok : tabB Try.prog tab = true := by kernel_rfl
theorem tok0 : TOK Try.prog T0 := (tab_ok tabok).tok (fun _ _ _ _ h => by cases h) (fun _ _ _ _ _ h => by cases h)

end Go.Sm.Ytdeplgocckdbiaa
