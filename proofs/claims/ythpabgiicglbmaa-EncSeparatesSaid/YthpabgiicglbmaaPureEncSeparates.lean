/- EncSeparates, the plain law: proved in Pq. -/
import Derived.Test.YthpabgiicglbmaaPq
