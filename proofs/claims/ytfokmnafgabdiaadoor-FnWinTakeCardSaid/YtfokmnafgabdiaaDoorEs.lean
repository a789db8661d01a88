/- Merged: V29, V30, V31. -/
import Derived.Test.YtfokmnafgabdiaaDoorEm
import Derived.Test.YtfokmnafgabdiaaDoorEq
namespace Go.Proofs.YtfokmnafgabdiaaDoor.Eng
open Go Go.RowKit Kw
set_option linter.unusedVariables false
set_option linter.unusedSimpArgs false
set_option maxRecDepth 10000
set_option maxHeartbeats 4000000
attribute [local irreducible] Ct HCt
abbrev EO := Int × (List UInt8)
def eO : EO → List C := fun x => match x with | (n, s) => [C.lit (.int .i64 n), C.lit (.string (mk s))]
def rO (l : List EO) : List (List C) := l.map eO
theorem rO_len (l : List EO) : (rO l).length = l.length := by simp [rO]
theorem untie_rO (l : List EO) : rowsUntie (rO l) = rO l := by
  unfold rowsUntie
  rw [if_pos]
  simp only [rO, List.all_map, List.all_eq_true]
  rintro ⟨n, s⟩ _
  simp [eO, C.flat]

def ownP : List Int → List UInt8 → List EO
  | [], _ => []
  | n :: l, s => (n, s) :: ownP l (nextS s)
theorem ownP_len : ∀ (l : List Int) (s : List UInt8), (ownP l s).length = l.length
  | [], _ => rfl
  | n :: l, s => by simp [ownP, ownP_len l]
def firstM (who : Int) (s : List UInt8) : List EO := ownP (pathL who) s
theorem firstM_len (who : Int) (s : List UInt8) : (firstM who s).length = 4 := rfl
end Go.Proofs.YtfokmnafgabdiaaDoor.Eng
namespace Go.Proofs.YtfokmnafgabdiaaDoor.Eng
open Go Go.RowKit Kw
set_option linter.unusedVariables false
set_option linter.unusedSimpArgs false
set_option maxRecDepth 10000
set_option maxHeartbeats 4000000
attribute [local irreducible] Ct HCt
def markOL (k : Nat) (n : Nat) : List EO := (List.range n).map fun i => (((k + 2 * i : Nat) : Int), markS (k + 2 * i + 1))
theorem markOL_len (k n : Nat) : (markOL k n).length = n := by simp [markOL]
end Go.Proofs.YtfokmnafgabdiaaDoor.Eng
namespace Go.Proofs.YtfokmnafgabdiaaDoor.Eng
open Go Go.RowKit Kw
set_option linter.unusedVariables false
set_option linter.unusedSimpArgs false
set_option maxRecDepth 10000
set_option maxHeartbeats 4000000
attribute [local irreducible] Ct HCt
end Go.Proofs.YtfokmnafgabdiaaDoor.Eng
