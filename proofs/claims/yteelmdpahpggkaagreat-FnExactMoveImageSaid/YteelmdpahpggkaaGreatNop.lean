/- What is made anew: tables, guests, monitors; what is put away and begun again, both sides. PRINTED by gen3.py. No condition. -/
import Derived.Test.YteelmdpahpggkaaGreatNnp
namespace Go.Proofs.YteelmdpahpggkaaGreat.T
open Go
set_option linter.unusedVariables false
set_option linter.unusedSimpArgs false
set_option maxRecDepth 100000
set_option maxHeartbeats 8000000

theorem impl_TableNew_f (n : Nat) (hn : 1 ≤ n ∧ n ≤ 24 := by omega) : Fun Tryz.prog 132 [I n] (RL 2 ((tableNew n).map dSlot)) := by
  refine Fun.w 8 Tryz.func132 fun w g0 _ => ?_
  refine callP (impl_NoSlot_f).k ?_
  refine callP (impl_Brought_n hn.2).k ?_
  refine callL (slices_RepeatSlot_f noSlot n hn).k ?_
  exact rfl

theorem spec_KeptNew_f  : Fun Tryz.prog 76 [I 4] (RG [.a (rKept keptNew)]) := by
  refine Fun.w 11 Tryz.func76 fun w g0 _ => ?_
  refine callL (spec_TableNew_f 4 (by omega)).k ?_
  refine lenq 4 ?_ rfl
  refine mkn ?_
  exact rfl

theorem impl_KeptNew_f  : Fun Tryz.prog 84 [I 4] (RG [.a (rKept keptNew)]) := by
  refine Fun.w 9 Tryz.func84 fun w g0 _ => ?_
  refine regT [6] [] [] (.quiet 0 0 (.quiet 3 0 (.fork (.alt 1 (.fork (.alt 2 (.fork (.alt 4 (.quiet 5 0 (.fork (.alt 6 .done .stop))) .stop)) (.alt 4 (.fork (.alt 2 (.quiet 5 0 (.fork (.alt 6 .done .stop))) .stop)) .stop))) .stop)))) ?_
  repeat' first | exact True.intro | refine And.intro ?_ ?_ | (intro _ _) | refine callP (impl_Brought_n (n := 4) (by omega)).k ?_ | refine mkn ?_ | refine callL (impl_TableNew_f 4 (by omega)).k ?_
  all_goals exact rfl

end Go.Proofs.YteelmdpahpggkaaGreat.T

