import Derived.Test.YthpabgiicglbmaaHD
import Derived.Test.YthpabgiicglbmaaHG
import Derived.Test.YthpabgiicglbmaaHH
import Derived.Test.YthpabgiicglbmaaHK
import Derived.Test.YthpabgiicglbmaaHM
import Derived.Test.YthpabgiicglbmaaHO
import Derived.Test.YthpabgiicglbmaaHQ
import Derived.Test.YthpabgiicglbmaaHT
