/- The table of the types. -/
import Derived.Test.YtpnkcjlapkhclaaC2
import Derived.Test.YtpnkcjlapkhclaaProg
import Derived.KernelRfl
namespace Go.Sm.Ytpnkcjlapkhclaa
open Go Go.Sm Go.RowKit Go.Proofs

def tab : Tab := ⟨[(36, 22), (44, 76), (47, 74), (54, 2)],
  [(2, .i64), (3, .i64), (4, .bo), (22, .f32), (32, .f64), (24, .line), (26, .line), (74, .edge), (76, .edge)],
  [(2, .int .i64), (3, .int .i64), (4, .bool), (22, .float .f32), (32, .float .f64)]⟩
def muts (f : Nat) : Bool := memN f []
def S0 : SFn := noS
def M0 : MFn := noM
def T0 : TT := tab.T S0 muts M0
theorem tabok : tabB Try.prog tab = true := by kernel_rfl
theorem tok0 : TOK Try.prog T0 := (tab_ok tabok).tok (fun _ _ _ _ h => by cases h) (fun _ _ _ _ _ h => by cases h)

end Go.Sm.Ytpnkcjlapkhclaa
