/- Ranges of numbers. -/
import Derived.Test.YtioboahhiklolaaNt1
import Derived.ProofKit
import Derived.OpenShut
import Derived.Deep.RegionWith
