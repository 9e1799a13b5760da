/- Instructions read from a line: the reference's walk. PRINTED by gen.py out of spec_readins.py. -/
import Derived.Test.YtfiakjbnfaaamaaDoorT3
import Derived.Test.YtfiakjbnfaaamaaDoorWl
import Derived.Test.YtfiakjbnfaaamaaDoorWp
namespace Go.Proofs.YtfiakjbnfaaamaaDoor.T
open Go
set_option linter.unusedVariables false
set_option linter.unusedSimpArgs false
set_option maxRecDepth 100000
set_option maxHeartbeats 1000000

-- loop.example/g00975/spec.ReadDecimal: params ['string'] results ['int', 'bool'] ('arr', [('app', 'Go.ResultVar.tmp', ['2']), ('app', 'Go.ResultVar.tmp', ['3'])])
-- loop.example/g00975/spec.l37Num: params ['[]string', 'int'] results ['int'] ('arr', [('app', 'Go.ResultVar.tmp', ['4'])])
-- loop.example/g00975/spec.l37Join: params ['[]string'] results ['string'] ('arr', [('app', 'Go.ResultVar.tmp', ['2'])])
-- loop.example/g00975/spec.ReadIns: params ['string'] results ['impl.Ins = loop.example/g00975/impl.Ins', 'bool'] ('arr', [('app', 'Go.ResultVar.cell', ['2', '66']), ('app', 'Go.ResultVar.tmp', ['3'])])
end Go.Proofs.YtfiakjbnfaaamaaDoor.T

