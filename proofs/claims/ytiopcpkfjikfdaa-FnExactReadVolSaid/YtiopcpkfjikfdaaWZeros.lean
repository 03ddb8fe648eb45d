/- nothing of these words is mentioned -/
import Derived.Test.YtiopcpkfjikfdaaWApart
import Derived.Test.YtiopcpkfjikfdaaWArr
