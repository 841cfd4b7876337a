/- Texts of the proof. No conditions of its own. -/
import Derived.Test.YtlbnennpefkpgaaDoorLxS
import Derived.Test.YtlbnennpefkpgaaDoorLxU
set_option linter.unusedVariables false
set_option linter.unusedSimpArgs false
