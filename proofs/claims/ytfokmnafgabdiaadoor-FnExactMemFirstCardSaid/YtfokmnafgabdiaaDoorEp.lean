/- Merged: V21, N5, V22, V23, V24, V27, V25, V26. -/
import Derived.Test.YtfokmnafgabdiaaDoorEi
import Derived.Test.YtfokmnafgabdiaaDoorEj
import Derived.Test.YtfokmnafgabdiaaDoorEm
/- Windows that are ok, whatever they hold: by the program, by the reference. -/
namespace Go.Proofs.YtfokmnafgabdiaaDoor.Eng
open Go Go.RowKit Kw
set_option linter.unusedVariables false
set_option linter.unusedSimpArgs false
set_option maxRecDepth 10000
set_option maxHeartbeats 4000000
attribute [local irreducible] Ct HCt
end Go.Proofs.YtfokmnafgabdiaaDoor.Eng
/- Windows: a number put in, others dropped: plain facts of lists. -/
namespace Go.Proofs.YtfokmnafgabdiaaDoor.Eng
open Go Go.RowKit Kw
set_option linter.unusedVariables false
set_option linter.unusedSimpArgs false
end Go.Proofs.YtfokmnafgabdiaaDoor.Eng
/- Windows that are ok, by the reference; lists of numbers searched. -/
namespace Go.Proofs.YtfokmnafgabdiaaDoor.Eng
open Go Go.RowKit Kw
set_option linter.unusedVariables false
set_option linter.unusedSimpArgs false
set_option maxRecDepth 10000
set_option maxHeartbeats 4000000
attribute [local irreducible] Ct HCt
end Go.Proofs.YtfokmnafgabdiaaDoor.Eng
/- Windows: numbers that are too late. -/
namespace Go.Proofs.YtfokmnafgabdiaaDoor.Eng
open Go Go.RowKit Kw
set_option linter.unusedVariables false
set_option linter.unusedSimpArgs false
set_option maxRecDepth 10000
set_option maxHeartbeats 4000000
attribute [local irreducible] Ct HCt
end Go.Proofs.YtfokmnafgabdiaaDoor.Eng
/- Windows: a number put in, numbers taken out (in memory). -/
namespace Go.Proofs.YtfokmnafgabdiaaDoor.Eng
open Go Go.RowKit Kw
set_option linter.unusedVariables false
set_option linter.unusedSimpArgs false
set_option maxRecDepth 4000
set_option maxHeartbeats 2000000
end Go.Proofs.YtfokmnafgabdiaaDoor.Eng
/- The laws' own functions over numbers, and over windows. -/
namespace Go.Proofs.YtfokmnafgabdiaaDoor.Eng
open Go Go.RowKit Kw
set_option linter.unusedVariables false
set_option linter.unusedSimpArgs false
set_option maxRecDepth 10000
set_option maxHeartbeats 4000000
attribute [local irreducible] Ct HCt
def fillI (l : List Int) (i : Nat) : List Int := l.take i ++ List.replicate (l.length - i) 0
theorem fillI_len (l : List Int) (i : Nat) : (fillI l i).length = l.length := by
  unfold fillI; simp; omega
def markIL (k : Nat) (n : Nat) : List Int := (List.range n).map fun i => ((k + i : Nat) : Int)
theorem markIL_len (k n : Nat) : (markIL k n).length = n := by simp [markIL]
end Go.Proofs.YtfokmnafgabdiaaDoor.Eng
/- Windows: what they take, by the program. -/
namespace Go.Proofs.YtfokmnafgabdiaaDoor.Eng
open Go Go.RowKit Kw
set_option linter.unusedVariables false
set_option linter.unusedSimpArgs false
set_option maxRecDepth 10000
set_option maxHeartbeats 4000000
attribute [local irreducible] Ct HCt
end Go.Proofs.YtfokmnafgabdiaaDoor.Eng
/- Windows: what they take: WinTake by the program; by the reference. -/
namespace Go.Proofs.YtfokmnafgabdiaaDoor.Eng
open Go Go.RowKit Kw
set_option linter.unusedVariables false
set_option linter.unusedSimpArgs false
set_option maxRecDepth 10000
set_option maxHeartbeats 4000000
attribute [local irreducible] Ct HCt
end Go.Proofs.YtfokmnafgabdiaaDoor.Eng
