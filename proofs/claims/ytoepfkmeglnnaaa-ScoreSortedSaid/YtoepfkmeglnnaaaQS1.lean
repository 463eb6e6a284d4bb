/- What the Go functions answer, as Lean functions, and the proofs that they do: written by a program (printfl.py over the print). -/
import Derived.Test.YtoepfkmeglnnaaaQ0
import Derived.Test.YtoepfkmeglnnaaaQ1
import Derived.Test.YtoepfkmeglnnaaaQ2
import Derived.Test.YtoepfkmeglnnaaaQ3
import Derived.Test.YtoepfkmeglnnaaaQ4
import Derived.Test.YtoepfkmeglnnaaaQ5
import Derived.Test.YtoepfkmeglnnaaaQ6
import Derived.Test.YtoepfkmeglnnaaaQ7
