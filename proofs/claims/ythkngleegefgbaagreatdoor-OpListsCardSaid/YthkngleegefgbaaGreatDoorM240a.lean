/- No more contracts. -/
import Derived.Test.YthkngleegefgbaaGreatDoorL0a
