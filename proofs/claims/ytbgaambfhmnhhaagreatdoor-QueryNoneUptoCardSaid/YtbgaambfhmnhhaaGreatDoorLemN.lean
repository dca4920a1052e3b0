/- The example returns true. Conditions: none. -/
import Derived.Test.YtbgaambfhmnhhaaGreatDoorLem3

