/- Where a Test stands in a list. -/
import Derived.Test.YtbddklkfekiaeaaGTest
import Derived.Test.YtbddklkfekiaeaaC3
set_option maxHeartbeats 4000000
set_option synthInstance.maxHeartbeats 400000
set_option synthInstance.maxSize 4096
set_option linter.unusedSimpArgs false
set_option linter.unusedVariables false
namespace Go.Proofs.Ytbddklkfekiaeaa

set_option maxRecDepth 100000

end Go.Proofs.Ytbddklkfekiaeaa

