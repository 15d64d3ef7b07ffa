/- The table of the types. -/
import Derived.Test.YtdnfgoolapikmaaG5
import Derived.Test.YtdnfgoolapikmaaX1
import Derived.Test.YtdnfgoolapikmaaProg
import Derived.KernelRfl
namespace Go.Sm.Ytdnfgoolapikmaa
open Go Go.Sm Go.RowKit Go.Proofs

def tab : Tab := ⟨[(22, 37), (31, 67), (34, 65), (46, 2)],
  [(2, .i64), (3, .i64), (4, .bo), (5, .u8), (37, .f32), (41, .f64), (65, .line), (67, .line)],
  [(2, .int .i64), (3, .int .i64), (4, .bool), (5, .int .u8), (21, .int .i32), (37, .float .f32), (41, .float .f64), (86, .int .u32), (88, .int .u64), (94, .int .u64)]⟩
def muts (f : Nat) : Bool := memN f []
def S0 : SFn := noS
def M0 : MFn := noM
def T0 : TT := tab.T S0 muts M0
theorem tabok : tabB Try.prog tab = true := by kernel_rfl
theorem tok0 : TOK Try.prog T0 := (tab_ok tabok).tok (fun _ _ _ _ h => by cases h) (fun _ _ _ _ _ h => by cases h)

end Go.Sm.Ytdnfgoolapikmaa
