/- EncRanges, the plain law: proved in Pr. -/
import Derived.Test.YthpabgiicglbmaaPr
