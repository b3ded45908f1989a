/- Ranges of numbers. -/
import Derived.Test.YtinlaokblnhgoaaDoorNt1
import Derived.ProofKit
import Derived.OpenShut
import Derived.Deep.RegionWith
