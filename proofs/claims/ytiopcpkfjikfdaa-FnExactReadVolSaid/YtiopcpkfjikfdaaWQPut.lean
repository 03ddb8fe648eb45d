/- nothing of these words is mentioned -/
import Derived.Test.YtiopcpkfjikfdaaWWords
import Derived.Test.YtiopcpkfjikfdaaWLast
