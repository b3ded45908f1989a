/- Ranges of numbers. -/
import Derived.Test.YtfjmceiahampoaaDoorNt1
import Derived.ProofKit
import Derived.OpenShut
import Derived.Deep.RegionWith
