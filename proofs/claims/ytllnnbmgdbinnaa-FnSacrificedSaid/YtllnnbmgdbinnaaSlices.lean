/- Contracts of the functions that look through a slice of numbers. -/
import Derived.Test.YtllnnbmgdbinnaaInts
namespace Go.Proofs.Ytllnnbmgdbinnaa
set_option linter.unusedSimpArgs false
set_option linter.unusedVariables false
open Go.RowKit
/-- A label. -/
def lab (x : Int) : Bool := inB x 0 65535
def allLab (l : List Int) : Bool := l.all lab
end Go.Proofs.Ytllnnbmgdbinnaa
