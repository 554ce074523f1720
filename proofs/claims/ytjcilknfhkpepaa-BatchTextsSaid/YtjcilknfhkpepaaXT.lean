import Derived.Test.YtjcilknfhkpepaaX5
import Derived.Test.YtjcilknfhkpepaaX7
import Derived.Test.YtjcilknfhkpepaaX9
import Derived.Test.YtjcilknfhkpepaaX11
import Derived.Test.YtjcilknfhkpepaaX12
import Derived.Test.YtjcilknfhkpepaaX16
import Derived.Test.YtjcilknfhkpepaaX19
import Derived.Test.YtjcilknfhkpepaaX20
