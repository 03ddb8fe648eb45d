/- nothing of these words is mentioned -/
import Derived.Test.YtiopcpkfjikfdaaDoorWInv
import Derived.Test.YtiopcpkfjikfdaaDoorWFootNe
