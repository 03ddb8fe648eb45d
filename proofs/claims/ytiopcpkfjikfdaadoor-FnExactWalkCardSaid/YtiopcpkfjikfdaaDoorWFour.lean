/- nothing of these words is mentioned -/
import Derived.Test.YtiopcpkfjikfdaaDoorWTab
