/- Merged: V19, V20. -/
import Derived.Test.YtfokmnafgabdiaaDoorEi
import Derived.Test.YtfokmnafgabdiaaDoorEj
namespace Go.Proofs.YtfokmnafgabdiaaDoor.Eng
open Go Go.RowKit Kw
set_option linter.unusedVariables false
set_option linter.unusedSimpArgs false
set_option maxRecDepth 10000
attribute [local irreducible] Ct HCt
set_option maxHeartbeats 4000000
def setL (l : List (List UInt8)) (who : Int) (s : List UInt8) : List (List UInt8) :=
  (((l.set (7 + who).toNat (keyOf s)).set ((7 + who - 1) / 2).toNat (keyOf (nextS s))).set (((7 + who - 1) / 2 - 1) / 2).toNat (keyOf (nextS (nextS s)))).set (0 : Int).toNat (keyOf (nextS (nextS (nextS s))))
theorem setL_len (l : List (List UInt8)) (who : Int) (s : List UInt8) : (setL l who s).length = l.length := by simp [setL]
end Go.Proofs.YtfokmnafgabdiaaDoor.Eng
namespace Go.Proofs.YtfokmnafgabdiaaDoor.Eng
open Go Go.RowKit Kw
set_option linter.unusedVariables false
set_option linter.unusedSimpArgs false
set_option maxRecDepth 10000
attribute [local irreducible] Ct HCt
set_option maxHeartbeats 4000000
end Go.Proofs.YtfokmnafgabdiaaDoor.Eng
