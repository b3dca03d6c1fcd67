/- CodecBack: the law's parts together. -/
import Derived.Test.YtehdhmhpmkkneaaOe
import Derived.Test.YtehdhmhpmkkneaaCq
