/- nothing of these words is mentioned -/
import Derived.Test.YtiopcpkfjikfdaaWInv
import Derived.Test.YtiopcpkfjikfdaaWFootNe
