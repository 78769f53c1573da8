/- A closed function: it answers true. -/
import Derived.Test.YtbmbiiiacajolaaLt
import Derived.Test.YtbmbiiiacajolaaFa
import Derived.Test.YtbmbiiiacajolaaFk1
import Derived.Test.YtbmbiiiacajolaaFk2
import Derived.Test.YtbmbiiiacajolaaFk3
import Derived.Test.YtbmbiiiacajolaaFk4
import Derived.Test.YtbmbiiiacajolaaFk5
import Derived.Test.YtbmbiiiacajolaaFk6
import Derived.Test.YtbmbiiiacajolaaFk7
namespace Go.Proofs.Ytbmbiiiacajolaa
set_option linter.unusedVariables false
set_option linter.unusedSimpArgs false
set_option linter.unusedSectionVars false
open Go Go.RowKit

set_option maxRecDepth 1000000 in
theorem kFk : ∀ cs, (runCtr (cxL Try.prog [lFk57, lFk1, lFk61, lFk64, lFk73, lFk79, lFk84, lFk87, lFk94, lFk102, lFk109, lFk117, lFk121, lFk125, lFk132, lFk139, lFk142, lFk143, lFk149, lFk150, lFk152, lFk154, lFk156, lFk158, lFk161, lFk167, lFk168, lFk171, lFk172, lFk180, lFk181, lFk187, lFk188, lFk191, lFk192, lFk198, lFk199, lFk202, lFk203, lFk209, lFk210, lFk213, lFk214, lFk220, lFk221, lFk222, lFk58, lFk223, lFk224, lFk118, lFk225, lFk226, lFk122, lFk227, lFk228, lFk230, lFk232, lFk235, lFk236, lFk237, lFk238, lFk244, lFk247, lFk250, lFk253, lFk254, lFk255, lFk256, lFk257, lFk258, lFa]) 60 (boolC 6) [] []).satC (cxL Try.prog [lFk57, lFk1, lFk61, lFk64, lFk73, lFk79, lFk84, lFk87, lFk94, lFk102, lFk109, lFk117, lFk121, lFk125, lFk132, lFk139, lFk142, lFk143, lFk149, lFk150, lFk152, lFk154, lFk156, lFk158, lFk161, lFk167, lFk168, lFk171, lFk172, lFk180, lFk181, lFk187, lFk188, lFk191, lFk192, lFk198, lFk199, lFk202, lFk203, lFk209, lFk210, lFk213, lFk214, lFk220, lFk221, lFk222, lFk58, lFk223, lFk224, lFk118, lFk225, lFk226, lFk122, lFk227, lFk228, lFk230, lFk232, lFk235, lFk236, lFk237, lFk238, lFk244, lFk247, lFk250, lFk253, lFk254, lFk255, lFk256, lFk257, lFk258, lFa]) preL okL (fun _ o => oneB o) cs 0 [] [] = true := by intro cs; kernel_rfl
theorem hFk : (boolC 6).Holds objs Try.prog := lit_root (callable _ Try.func6 (by kernel_rfl) (by kernel_rfl)) (all_cons hlFk57 (all_cons hlFk1 (all_cons hlFk61 (all_cons hlFk64 (all_cons hlFk73 (all_cons hlFk79 (all_cons hlFk84 (all_cons hlFk87 (all_cons hlFk94 (all_cons hlFk102 (all_cons hlFk109 (all_cons hlFk117 (all_cons hlFk121 (all_cons hlFk125 (all_cons hlFk132 (all_cons hlFk139 (all_cons hlFk142 (all_cons hlFk143 (all_cons hlFk149 (all_cons hlFk150 (all_cons hlFk152 (all_cons hlFk154 (all_cons hlFk156 (all_cons hlFk158 (all_cons hlFk161 (all_cons hlFk167 (all_cons hlFk168 (all_cons hlFk171 (all_cons hlFk172 (all_cons hlFk180 (all_cons hlFk181 (all_cons hlFk187 (all_cons hlFk188 (all_cons hlFk191 (all_cons hlFk192 (all_cons hlFk198 (all_cons hlFk199 (all_cons hlFk202 (all_cons hlFk203 (all_cons hlFk209 (all_cons hlFk210 (all_cons hlFk213 (all_cons hlFk214 (all_cons hlFk220 (all_cons hlFk221 (all_cons hlFk222 (all_cons hlFk58 (all_cons hlFk223 (all_cons hlFk224 (all_cons hlFk118 (all_cons hlFk225 (all_cons hlFk226 (all_cons hlFk122 (all_cons hlFk227 (all_cons hlFk228 (all_cons hlFk230 (all_cons hlFk232 (all_cons hlFk235 (all_cons hlFk236 (all_cons hlFk237 (all_cons hlFk238 (all_cons hlFk244 (all_cons hlFk247 (all_cons hlFk250 (all_cons hlFk253 (all_cons hlFk254 (all_cons hlFk255 (all_cons hlFk256 (all_cons hlFk257 (all_cons hlFk258 (all_cons hlFa all_nil))))))))))))))))))))))))))))))))))))))))))))))))))))))))))))))))))))))) kFk
def lFk : Lit := lB 6
theorem hlFk : (lit lFk).Holds objs Try.prog := hFk
end Go.Proofs.Ytbmbiiiacajolaa
