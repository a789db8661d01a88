/- Merged: V11, V12, V13, V14, V15, V16, V17, V18. -/
import Derived.Test.YtfokmnafgabdiaaDoorEi
import Derived.Test.YtfokmnafgabdiaaDoorEd
namespace Go.Proofs.YtfokmnafgabdiaaDoor.Eng
open Go Go.RowKit Kw
set_option linter.unusedVariables false
set_option linter.unusedSimpArgs false
set_option maxRecDepth 10000
attribute [local irreducible] Ct HCt
set_option maxHeartbeats 4000000
abbrev vI (n : Int) : V := .w (.one (.c (.lit (.int .i64 n))))
abbrev vB (b : Bool) : V := .w (.one (.c (.lit (.bool b))))
abbrev vS (s : List UInt8) : V := .w (.one (.c (.lit (.string (mk s)))))
end Go.Proofs.YtfokmnafgabdiaaDoor.Eng
namespace Go.Proofs.YtfokmnafgabdiaaDoor.Eng
open Go Go.RowKit Kw
set_option linter.unusedVariables false
set_option linter.unusedSimpArgs false
set_option maxRecDepth 10000
attribute [local irreducible] Ct HCt
set_option maxHeartbeats 4000000
abbrev oI (l : List Int) (cap : Option Nat) : BV := .w (.one (.b (.own 1 (rI l) cap)))
def upL (n : Int) : List Int := [(n - 1) / 2, ((n - 1) / 2 - 1) / 2, 0]
def pathL (who : Int) : List Int := (7 + who) :: upL (7 + who)
theorem upL_len (n : Int) : (upL n).length = 3 := rfl
theorem pathL_len (n : Int) : (pathL n).length = 4 := rfl
def clearL (l : List (List UInt8)) (who : Int) : List (List UInt8) :=
  (((l.set (7 + who).toNat []).set ((7 + who - 1) / 2).toNat []).set (((7 + who - 1) / 2 - 1) / 2).toNat []).set (0 : Int).toNat []
theorem clearL_len (l : List (List UInt8)) (who : Int) : (clearL l who).length = l.length := by simp [clearL]
end Go.Proofs.YtfokmnafgabdiaaDoor.Eng
namespace Go.Proofs.YtfokmnafgabdiaaDoor.Eng
open Go Go.RowKit Kw
set_option linter.unusedVariables false
set_option linter.unusedSimpArgs false
set_option maxRecDepth 10000
attribute [local irreducible] Ct HCt
set_option maxHeartbeats 4000000
end Go.Proofs.YtfokmnafgabdiaaDoor.Eng
namespace Go.Proofs.YtfokmnafgabdiaaDoor.Eng
open Go Go.RowKit Kw
set_option linter.unusedVariables false
set_option linter.unusedSimpArgs false
set_option maxRecDepth 10000
attribute [local irreducible] Ct HCt
set_option maxHeartbeats 4000000
end Go.Proofs.YtfokmnafgabdiaaDoor.Eng
namespace Go.Proofs.YtfokmnafgabdiaaDoor.Eng
open Go Go.RowKit Kw
set_option linter.unusedVariables false
set_option linter.unusedSimpArgs false
set_option maxRecDepth 10000
attribute [local irreducible] Ct HCt
set_option maxHeartbeats 4000000
def digL (k : Nat) (out : List UInt8) : List UInt8 := if h : 0 < k then digL (k / 10) ([UInt8.ofNat (48 + (k : Int) % 10).toNat] ++ out) else out
termination_by k
decreasing_by exact Nat.div_lt_self h (by omega)
def markS (k : Nat) : List UInt8 := [109] ++ digL k []
def fillL (l : List (List UInt8)) (i : Nat) : List (List UInt8) := l.take i ++ List.replicate (l.length - i) []
theorem fillL_len (l : List (List UInt8)) (i : Nat) : (fillL l i).length = l.length := by
  unfold fillL; simp; omega
end Go.Proofs.YtfokmnafgabdiaaDoor.Eng
namespace Go.Proofs.YtfokmnafgabdiaaDoor.Eng
open Go Go.RowKit Kw
set_option linter.unusedVariables false
set_option linter.unusedSimpArgs false
set_option maxRecDepth 10000
attribute [local irreducible] Ct HCt
set_option maxHeartbeats 4000000
end Go.Proofs.YtfokmnafgabdiaaDoor.Eng
namespace Go.Proofs.YtfokmnafgabdiaaDoor.Eng
open Go Go.RowKit Kw
set_option linter.unusedVariables false
set_option linter.unusedSimpArgs false
set_option maxRecDepth 10000
attribute [local irreducible] Ct HCt
set_option maxHeartbeats 4000000
def markL (k : Nat) (n : Nat) : List (List UInt8) := (List.range n).map fun i => markS (k + i)
theorem markL_len (k n : Nat) : (markL k n).length = n := by simp [markL]
end Go.Proofs.YtfokmnafgabdiaaDoor.Eng
namespace Go.Proofs.YtfokmnafgabdiaaDoor.Eng
open Go Go.RowKit Kw
set_option linter.unusedVariables false
set_option linter.unusedSimpArgs false
set_option maxRecDepth 10000
attribute [local irreducible] Ct HCt
set_option maxHeartbeats 4000000
end Go.Proofs.YtfokmnafgabdiaaDoor.Eng
