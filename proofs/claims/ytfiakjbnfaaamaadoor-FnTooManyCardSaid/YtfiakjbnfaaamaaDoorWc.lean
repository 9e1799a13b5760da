/- InsLine: both sides, and the law's own walk. PRINTED by gen.py out of spec_ins3.py. -/
import Derived.Test.YtfiakjbnfaaamaaDoorT3
import Derived.Test.YtfiakjbnfaaamaaDoorWb
namespace Go.Proofs.YtfiakjbnfaaamaaDoor.T
open Go
set_option linter.unusedVariables false
set_option linter.unusedSimpArgs false
set_option maxRecDepth 100000
set_option maxHeartbeats 1000000

-- loop.example/g00975/spec.InsLine: params ['impl.Ins = loop.example/g00975/impl.Ins'] results ['string'] ('arr', [('app', 'Go.ResultVar.tmp', ['2'])])
-- loop.example/g00975/impl.InsLine: params ['impl.Ins = loop.example/g00975/impl.Ins'] results ['string'] ('arr', [('app', 'Go.ResultVar.tmp', ['2'])])
end Go.Proofs.YtfiakjbnfaaamaaDoor.T

