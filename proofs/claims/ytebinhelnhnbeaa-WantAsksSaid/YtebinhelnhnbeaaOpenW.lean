/- The openings of a booking, an operation and bytes, together. -/
import Derived.Test.YtebinhelnhnbeaaOpenP
import Derived.Test.YtebinhelnhnbeaaOpen
set_option linter.unusedSimpArgs false
set_option linter.unusedVariables false
