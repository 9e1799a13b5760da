/- Hosts that are in order, both sides. PRINTED by gen3.py. No condition. -/
import Derived.Test.YteelmdpahpggkaaGreatNhp
namespace Go.Proofs.YteelmdpahpggkaaGreat.T
open Go
set_option linter.unusedVariables false
set_option linter.unusedSimpArgs false
set_option maxRecDepth 100000
set_option maxHeartbeats 8000000

theorem range_step {P : Nat → Bool} {k : Nat} (h : (List.range k).all P = true) (hp : P k = true) : (List.range (k + 1)).all P = true := by
  rw [List.range_succ, List.all_append, h]
  simp [hp]
end Go.Proofs.YteelmdpahpggkaaGreat.T

