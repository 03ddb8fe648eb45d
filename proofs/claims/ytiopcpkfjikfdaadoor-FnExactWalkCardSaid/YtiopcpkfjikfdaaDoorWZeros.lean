/- nothing of these words is mentioned -/
import Derived.Test.YtiopcpkfjikfdaaDoorWApart
import Derived.Test.YtiopcpkfjikfdaaDoorWArr
