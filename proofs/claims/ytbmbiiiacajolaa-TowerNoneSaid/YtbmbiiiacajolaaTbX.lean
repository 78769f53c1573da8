/- Towers: awake, as a call that is told. -/
import Derived.Test.YtbmbiiiacajolaaTbV
import Derived.Test.YtbmbiiiacajolaaLt
namespace Go.Proofs.Ytbmbiiiacajolaa
open Go

def lTAx : Lit := lB 18
theorem hlTAx : (lit lTAx).Holds objs Try.prog := hTAwake
end Go.Proofs.Ytbmbiiiacajolaa
