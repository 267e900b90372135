/- Light curves and charts: when they are valid, what the program's and the reference's checks return. -/
import Derived.Test.YthojfmlnnclghaaView
import Derived.Test.YthojfmlnnclghaaNum
import Derived.BigQuiet
import Derived.Deep.QuietTactic
namespace Go.Proofs.Ythojfmlnnclghaa.Curve
set_option linter.unusedVariables false
set_option linter.unusedSimpArgs false
open Go.RowKit Plain Num View

def okPt (T M : Nat → Int) (i : Nat) : Bool := inB (T i) 0 10000000 && inB (M i) (-2000) 20000 && (i == 0 || decide (T (i - 1) < T i))
def okCurve (n : Nat) (T M : Nat → Int) : Bool := decide (n ≤ 100) && allB n (okPt T M)

end Go.Proofs.Ythojfmlnnclghaa.Curve
