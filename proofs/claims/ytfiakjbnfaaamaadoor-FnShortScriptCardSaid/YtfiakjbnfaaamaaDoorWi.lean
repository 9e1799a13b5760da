/- Lines of actions: both sides, and the law's own walk. PRINTED by gen.py out of spec_act.py. -/
import Derived.Test.YtfiakjbnfaaamaaDoorT3
import Derived.Test.YtfiakjbnfaaamaaDoorWg
namespace Go.Proofs.YtfiakjbnfaaamaaDoor.T
open Go
set_option linter.unusedVariables false
set_option linter.unusedSimpArgs false
set_option maxRecDepth 100000
set_option maxHeartbeats 1000000

theorem actUses_size (k : Int) : (actUses k).size ≤ 5 := by
  unfold actUses
  repeat' split
  all_goals decide +kernel
-- loop.example/g00975/spec.ActLine: params ['impl.Act = loop.example/g00975/impl.Act'] results ['string'] ('arr', [('app', 'Go.ResultVar.tmp', ['2'])])
end Go.Proofs.YtfiakjbnfaaamaaDoor.T

