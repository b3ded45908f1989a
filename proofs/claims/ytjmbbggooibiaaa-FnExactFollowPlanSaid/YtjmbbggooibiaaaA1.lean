/- Ranges of numbers. -/
import Derived.Test.YtjmbbggooibiaaaNt1
import Derived.ProofKit
import Derived.OpenShut
import Derived.Deep.RegionWith
