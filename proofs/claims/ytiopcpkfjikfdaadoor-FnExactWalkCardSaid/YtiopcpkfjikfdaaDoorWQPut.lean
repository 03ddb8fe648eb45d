/- nothing of these words is mentioned -/
import Derived.Test.YtiopcpkfjikfdaaDoorWWords
import Derived.Test.YtiopcpkfjikfdaaDoorWLast
