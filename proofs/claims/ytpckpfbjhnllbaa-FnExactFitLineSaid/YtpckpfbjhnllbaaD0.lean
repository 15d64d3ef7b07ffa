/- The table of the types. -/
import Derived.Test.YtpckpfbjhnllbaaK6
import Derived.Test.YtpckpfbjhnllbaaProg
import Derived.KernelRfl
namespace Go.Sm.Ytpckpfbjhnllbaa
open Go Go.Sm Go.RowKit Go.Proofs

def tab : Tab := ⟨[(22, 37), (23, 24), (26, 38), (47, 23)],
  [(2, .i64), (3, .i64), (4, .bo), (5, .u8), (24, .f32), (37, .line), (38, .line), (44, .f64)],
  [(2, .int .i64), (3, .int .i64), (4, .bool), (5, .int .u8), (21, .int .i32), (24, .float .f32), (44, .float .f64), (84, .int .u64), (93, .int .u32)]⟩
def muts (f : Nat) : Bool := memN f [23, 29]
def S0 : SFn := noS
def M0 : MFn := noM
def T0 : TT := tab.T S0 muts M0
theorem tabok : tabB Try.prog tab = true := by kernel_rfl
theorem tok0 : TOK Try.prog T0 := (tab_ok tabok).tok (fun _ _ _ _ h => by cases h) (fun _ _ _ _ _ h => by cases h)

end Go.Sm.Ytpckpfbjhnllbaa
