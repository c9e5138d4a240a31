/- What openings answer. Printed by mac2.py. -/
import Derived.Test.YtllnnbmgdbinnaaMac2
namespace Go.Proofs.Ytllnnbmgdbinnaa
set_option linter.unusedSimpArgs false
set_option linter.unusedVariables false
open Go.RowKit
section
variable {p r : Int} {al sa ma sb mb sc mc sd md : List Int}
theorem toD_yes (h : form4 p al sa ma sb mb sc mc sd md = true) : toD p al sa ma sb mb sc mc sd md = fsub p (fsum p sa) (fsum p sc) := by simp [toD, h]
theorem toE_yes (h : form4 p al sa ma sb mb sc mc sd md = true) : toE p al sa ma sb mb sc mc sd md = fsub p (fsum p sb) (fsum p sd) := by simp [toE, h]
theorem toD_no (h : form4 p al sa ma sb mb sc mc sd md = false) : toD p al sa ma sb mb sc mc sd md = 0 := by simp [toD, h]
theorem toE_no (h : form4 p al sa ma sb mb sc mc sd md = false) : toE p al sa ma sb mb sc mc sd md = 0 := by simp [toE, h]
theorem soD_yes (h : sOpOk p al sa ma sb mb sc mc sd md r = true) : soD p al sa ma sb mb sc mc sd md r = fsub p (fmul p r (fsum p sa)) (fsum p sc) := by simp [soD, h]
theorem soE_yes (h : sOpOk p al sa ma sb mb sc mc sd md r = true) : soE p al sa ma sb mb sc mc sd md r = fsub p (fsum p sb) (fsum p sd) := by simp [soE, h]
theorem soD_no (h : sOpOk p al sa ma sb mb sc mc sd md r = false) : soD p al sa ma sb mb sc mc sd md r = 0 := by simp [soD, h]
theorem soE_no (h : sOpOk p al sa ma sb mb sc mc sd md r = false) : soE p al sa ma sb mb sc mc sd md r = 0 := by simp [soE, h]
end
end Go.Proofs.Ytllnnbmgdbinnaa
