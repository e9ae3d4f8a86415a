/- all printed texts. -/
import Derived.Test.YtinkkhcffoikmaaLb
import Derived.Test.YtinkkhcffoikmaaS1
import Derived.Test.YtinkkhcffoikmaaS2
import Derived.Test.YtinkkhcffoikmaaS3
import Derived.Test.YtinkkhcffoikmaaS4
import Derived.Test.YtinkkhcffoikmaaS5
import Derived.Test.YtinkkhcffoikmaaS6
import Derived.Test.YtinkkhcffoikmaaS7
import Derived.Test.YtinkkhcffoikmaaS8
import Derived.Test.YtinkkhcffoikmaaS9
import Derived.Test.YtinkkhcffoikmaaS10
