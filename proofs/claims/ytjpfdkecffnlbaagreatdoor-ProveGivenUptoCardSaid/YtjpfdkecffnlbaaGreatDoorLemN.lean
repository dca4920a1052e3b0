/- The example returns true. Conditions: none. -/
import Derived.Test.YtjpfdkecffnlbaaGreatDoorLem3

