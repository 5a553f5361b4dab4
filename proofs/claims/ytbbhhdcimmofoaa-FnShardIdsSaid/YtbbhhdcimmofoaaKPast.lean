/- Copies of lists. -/
import Derived.Test.YtbbhhdcimmofoaaC3
import Derived.Test.YtbbhhdcimmofoaaGPast
set_option maxHeartbeats 4000000
set_option synthInstance.maxHeartbeats 400000
set_option synthInstance.maxSize 4096
set_option linter.unusedSimpArgs false
set_option linter.unusedVariables false
namespace Go.Proofs.Ytbbhhdcimmofoaa

set_option maxRecDepth 100000

instance flatPast : Flat pastO := inferInstanceAs (Flat (consO strO (consO boolO (consO intO unitO))))

end Go.Proofs.Ytbbhhdcimmofoaa

