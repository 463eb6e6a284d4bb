/-
  No cell of these rows narrows 'for every input' (looked for: loops, veiled, ifaces, maps, wideKeys, modest, calm, conditions, laid).
  DERIVED. THE GIVEN ROWS OF THIS SEAT. 14 by the template 'for every input the law returns true; each argument reads behind the call as it read before'; 0 by the template 'total and deterministic' (their statements: YtoepfkmeglnnaaaTotals.lean).
  GIVEN WITH THE SEED: the statements are not yours to turn. If you find one false, say at which input.
  Laid BY PROGRAM, IN A SANDBOX (cutbox-rows.mjs): the forced cells as the released guide's own fill.sh prints them over the translation 541bce0cd554d8bc… (all of the seat's roots in one cut). By AI agents, Wed Nov 11 2026. No macro, syntax, notation, axiom, sorry.
-/
import Derived.Test.YtoepfkmeglnnaaaChecked
import GoSem.Claim
import GoSem.ClaimJoined
import GoSem.ClaimMapViews
import Derived.JoinedTies
import Derived.KernelRfl
namespace Go.Proofs.Ytoepfkmeglnnaaa
/- THE CELL 'sum', in the pinned program and in every row, IS THE sha256 OF THE DUMP (.gsa) THAT YtoepfkmeglnnaaaProg.lean LOADS. Nothing in Lean hashes anything: it is a label: what it is worth is what the hold of that sum in a sandbox is worth. -/
noncomputable def Try.pinned : Pinned := { name := "ytoepfkmeglnnaaa", sum := "541bce0cd554d8bcad42c307cecfe3dc00553d4f3ea28bde3d2671af1be001d7", checked := Try.checked }
namespace Rows
def none {H : Type} : Left H := { results := [], args := [] }

/-- 'imprimaturlaw01.ScoreCodes': WHATEVER THE INPUT: true; the input reads as it did. -/
def scoreCodesSpec : ChangeSpec := { name := "scoreCodes", fn := fun _ => fun
  | [d1, d2] => { results := [.lit (.bool true)], args := [d1, d2] }
  | _ => none }
def scoreCodesRow : OpenClaim := { program := "ytoepfkmeglnnaaa", sum := "541bce0cd554d8bcad42c307cecfe3dc00553d4f3ea28bde3d2671af1be001d7", func := "imprimatur/imprimaturlaw01.ScoreCodes", spec := "scoreCodes", inPlace := ["math.Float64bits", "math.Float64frombits"], apart := false }
def ScoreCodesSaid : Prop := scoreCodesRow.holds Try.pinned (OpenSpec.ofChange scoreCodesSpec)

/-- ITS FALSE NEIGHBOUR: 'it returns false'. Refute it at one input. -/
def scoreCodesWrong : ChangeSpec := { name := "scoreCodes", fn := fun _ => fun
  | [d1, d2] => { results := [.lit (.bool false)], args := [d1, d2] }
  | _ => none }
def ScoreCodesWrongFalsely : Prop := scoreCodesRow.holds Try.pinned (OpenSpec.ofChange scoreCodesWrong)

/-- 'imprimaturlaw01.ScoreTotals': WHATEVER THE INPUT: true; the input reads as it did. -/
def scoreTotalsSpec : ChangeSpec := { name := "scoreTotals", fn := fun _ => fun
  | [d] => { results := [.lit (.bool true)], args := [d] }
  | _ => none }
def scoreTotalsRow : OpenClaim := { program := "ytoepfkmeglnnaaa", sum := "541bce0cd554d8bcad42c307cecfe3dc00553d4f3ea28bde3d2671af1be001d7", func := "imprimatur/imprimaturlaw01.ScoreTotals", spec := "scoreTotals", inPlace := ["math.Float64bits", "math.Float64frombits"], apart := false }
def ScoreTotalsSaid : Prop := scoreTotalsRow.holds Try.pinned (OpenSpec.ofChange scoreTotalsSpec)

/-- ITS FALSE NEIGHBOUR: 'it returns false'. Refute it at one input. -/
def scoreTotalsWrong : ChangeSpec := { name := "scoreTotals", fn := fun _ => fun
  | [d] => { results := [.lit (.bool false)], args := [d] }
  | _ => none }
def ScoreTotalsWrongFalsely : Prop := scoreTotalsRow.holds Try.pinned (OpenSpec.ofChange scoreTotalsWrong)

/-- 'imprimaturlaw01.ScoreBacks': WHATEVER THE INPUT: true; the input reads as it did. -/
def scoreBacksSpec : ChangeSpec := { name := "scoreBacks", fn := fun _ => fun
  | [d] => { results := [.lit (.bool true)], args := [d] }
  | _ => none }
def scoreBacksRow : OpenClaim := { program := "ytoepfkmeglnnaaa", sum := "541bce0cd554d8bcad42c307cecfe3dc00553d4f3ea28bde3d2671af1be001d7", func := "imprimatur/imprimaturlaw01.ScoreBacks", spec := "scoreBacks", inPlace := ["math.Float64frombits", "math.Float64bits"], apart := false }
def ScoreBacksSaid : Prop := scoreBacksRow.holds Try.pinned (OpenSpec.ofChange scoreBacksSpec)

/-- ITS FALSE NEIGHBOUR: 'it returns false'. Refute it at one input. -/
def scoreBacksWrong : ChangeSpec := { name := "scoreBacks", fn := fun _ => fun
  | [d] => { results := [.lit (.bool false)], args := [d] }
  | _ => none }
def ScoreBacksWrongFalsely : Prop := scoreBacksRow.holds Try.pinned (OpenSpec.ofChange scoreBacksWrong)

/-- 'imprimaturlaw01.ScoreLess': WHATEVER THE INPUT: true; the input reads as it did. -/
def scoreLessSpec : ChangeSpec := { name := "scoreLess", fn := fun _ => fun
  | [d1, d2] => { results := [.lit (.bool true)], args := [d1, d2] }
  | _ => none }
def scoreLessRow : OpenClaim := { program := "ytoepfkmeglnnaaa", sum := "541bce0cd554d8bcad42c307cecfe3dc00553d4f3ea28bde3d2671af1be001d7", func := "imprimatur/imprimaturlaw01.ScoreLess", spec := "scoreLess", inPlace := ["math.Float64bits", "math.Float64frombits"], apart := false }
def ScoreLessSaid : Prop := scoreLessRow.holds Try.pinned (OpenSpec.ofChange scoreLessSpec)

/-- ITS FALSE NEIGHBOUR: 'it returns false'. Refute it at one input. -/
def scoreLessWrong : ChangeSpec := { name := "scoreLess", fn := fun _ => fun
  | [d1, d2] => { results := [.lit (.bool false)], args := [d1, d2] }
  | _ => none }
def ScoreLessWrongFalsely : Prop := scoreLessRow.holds Try.pinned (OpenSpec.ofChange scoreLessWrong)

/-- 'imprimaturlaw01.ScoreMids': WHATEVER THE INPUT: true; the input reads as it did. -/
def scoreMidsSpec : ChangeSpec := { name := "scoreMids", fn := fun _ => fun
  | [d1, d2] => { results := [.lit (.bool true)], args := [d1, d2] }
  | _ => none }
def scoreMidsRow : OpenClaim := { program := "ytoepfkmeglnnaaa", sum := "541bce0cd554d8bcad42c307cecfe3dc00553d4f3ea28bde3d2671af1be001d7", func := "imprimatur/imprimaturlaw01.ScoreMids", spec := "scoreMids", inPlace := ["math.Float64bits", "math.Float64frombits"], recurses := true, apart := false }
def ScoreMidsSaid : Prop := scoreMidsRow.holds Try.pinned (OpenSpec.ofChange scoreMidsSpec)

/-- ITS FALSE NEIGHBOUR: 'it returns false'. Refute it at one input. -/
def scoreMidsWrong : ChangeSpec := { name := "scoreMids", fn := fun _ => fun
  | [d1, d2] => { results := [.lit (.bool false)], args := [d1, d2] }
  | _ => none }
def ScoreMidsWrongFalsely : Prop := scoreMidsRow.holds Try.pinned (OpenSpec.ofChange scoreMidsWrong)

/-- 'imprimaturlaw01.ScoreZeros': WHATEVER THE INPUT: true; the input reads as it did. -/
def scoreZerosSpec : ChangeSpec := { name := "scoreZeros", fn := fun _ => fun
  | [d1, d2, d3, d4] => { results := [.lit (.bool true)], args := [d1, d2, d3, d4] }
  | _ => none }
def scoreZerosRow : OpenClaim := { program := "ytoepfkmeglnnaaa", sum := "541bce0cd554d8bcad42c307cecfe3dc00553d4f3ea28bde3d2671af1be001d7", func := "imprimatur/imprimaturlaw01.ScoreZeros", spec := "scoreZeros", inPlace := ["math.Float64bits", "math.Float64frombits"], apart := false }
def ScoreZerosSaid : Prop := scoreZerosRow.holds Try.pinned (OpenSpec.ofChange scoreZerosSpec)

/-- ITS FALSE NEIGHBOUR: 'it returns false'. Refute it at one input. -/
def scoreZerosWrong : ChangeSpec := { name := "scoreZeros", fn := fun _ => fun
  | [d1, d2, d3, d4] => { results := [.lit (.bool false)], args := [d1, d2, d3, d4] }
  | _ => none }
def ScoreZerosWrongFalsely : Prop := scoreZerosRow.holds Try.pinned (OpenSpec.ofChange scoreZerosWrong)

/-- 'imprimaturlaw01.ScoreBytes': WHATEVER THE INPUT: true; the input reads as it did. -/
def scoreBytesSpec : ChangeSpec := { name := "scoreBytes", fn := fun _ => fun
  | [d1, d2] => { results := [.lit (.bool true)], args := [d1, d2] }
  | _ => none }
def scoreBytesRow : OpenClaim := { program := "ytoepfkmeglnnaaa", sum := "541bce0cd554d8bcad42c307cecfe3dc00553d4f3ea28bde3d2671af1be001d7", func := "imprimatur/imprimaturlaw01.ScoreBytes", spec := "scoreBytes", inPlace := ["math.Float64bits", "math.Float64frombits"], apart := false }
def ScoreBytesSaid : Prop := scoreBytesRow.holds Try.pinned (OpenSpec.ofChange scoreBytesSpec)

/-- ITS FALSE NEIGHBOUR: 'it returns false'. Refute it at one input. -/
def scoreBytesWrong : ChangeSpec := { name := "scoreBytes", fn := fun _ => fun
  | [d1, d2] => { results := [.lit (.bool false)], args := [d1, d2] }
  | _ => none }
def ScoreBytesWrongFalsely : Prop := scoreBytesRow.holds Try.pinned (OpenSpec.ofChange scoreBytesWrong)

/-- 'imprimaturlaw01.ScoreBack': WHATEVER THE INPUT: true; the input reads as it did. -/
def scoreBackSpec : ChangeSpec := { name := "scoreBack", fn := fun _ => fun
  | [d1, d2] => { results := [.lit (.bool true)], args := [d1, d2] }
  | _ => none }
def scoreBackRow : OpenClaim := { program := "ytoepfkmeglnnaaa", sum := "541bce0cd554d8bcad42c307cecfe3dc00553d4f3ea28bde3d2671af1be001d7", func := "imprimatur/imprimaturlaw01.ScoreBack", spec := "scoreBack", inPlace := ["math.Float64bits", "math.Float64frombits"], apart := false }
def ScoreBackSaid : Prop := scoreBackRow.holds Try.pinned (OpenSpec.ofChange scoreBackSpec)

/-- ITS FALSE NEIGHBOUR: 'it returns false'. Refute it at one input. -/
def scoreBackWrong : ChangeSpec := { name := "scoreBack", fn := fun _ => fun
  | [d1, d2] => { results := [.lit (.bool false)], args := [d1, d2] }
  | _ => none }
def ScoreBackWrongFalsely : Prop := scoreBackRow.holds Try.pinned (OpenSpec.ofChange scoreBackWrong)

/-- 'imprimaturlaw01.ScoreNexts': WHATEVER THE INPUT: true; the input reads as it did. -/
def scoreNextsSpec : ChangeSpec := { name := "scoreNexts", fn := fun _ => fun
  | [d] => { results := [.lit (.bool true)], args := [d] }
  | _ => none }
def scoreNextsRow : OpenClaim := { program := "ytoepfkmeglnnaaa", sum := "541bce0cd554d8bcad42c307cecfe3dc00553d4f3ea28bde3d2671af1be001d7", func := "imprimatur/imprimaturlaw01.ScoreNexts", spec := "scoreNexts", inPlace := ["math.Float64bits", "math.Float64frombits"], apart := false }
def ScoreNextsSaid : Prop := scoreNextsRow.holds Try.pinned (OpenSpec.ofChange scoreNextsSpec)

/-- ITS FALSE NEIGHBOUR: 'it returns false'. Refute it at one input. -/
def scoreNextsWrong : ChangeSpec := { name := "scoreNexts", fn := fun _ => fun
  | [d] => { results := [.lit (.bool false)], args := [d] }
  | _ => none }
def ScoreNextsWrongFalsely : Prop := scoreNextsRow.holds Try.pinned (OpenSpec.ofChange scoreNextsWrong)

/-- 'imprimaturlaw01.ScoreGap': WHATEVER THE INPUT: true; the input reads as it did. -/
def scoreGapSpec : ChangeSpec := { name := "scoreGap", fn := fun _ => fun
  | [d1, d2] => { results := [.lit (.bool true)], args := [d1, d2] }
  | _ => none }
def scoreGapRow : OpenClaim := { program := "ytoepfkmeglnnaaa", sum := "541bce0cd554d8bcad42c307cecfe3dc00553d4f3ea28bde3d2671af1be001d7", func := "imprimatur/imprimaturlaw01.ScoreGap", spec := "scoreGap", inPlace := ["math.Float64bits", "math.Float64frombits"], apart := false }
def ScoreGapSaid : Prop := scoreGapRow.holds Try.pinned (OpenSpec.ofChange scoreGapSpec)

/-- ITS FALSE NEIGHBOUR: 'it returns false'. Refute it at one input. -/
def scoreGapWrong : ChangeSpec := { name := "scoreGap", fn := fun _ => fun
  | [d1, d2] => { results := [.lit (.bool false)], args := [d1, d2] }
  | _ => none }
def ScoreGapWrongFalsely : Prop := scoreGapRow.holds Try.pinned (OpenSpec.ofChange scoreGapWrong)

/-- 'imprimaturlaw01.ScoreSteps': WHATEVER THE INPUT: true; the input reads as it did. -/
def scoreStepsSpec : ChangeSpec := { name := "scoreSteps", fn := fun _ => fun
  | [d1, d2, d3, d4] => { results := [.lit (.bool true)], args := [d1, d2, d3, d4] }
  | _ => none }
def scoreStepsRow : OpenClaim := { program := "ytoepfkmeglnnaaa", sum := "541bce0cd554d8bcad42c307cecfe3dc00553d4f3ea28bde3d2671af1be001d7", func := "imprimatur/imprimaturlaw01.ScoreSteps", spec := "scoreSteps", inPlace := ["math.Float64bits", "math.Float64frombits"], recurses := true, named := ["math/bits.divideError", "math/bits.overflowError"], apart := false }
def ScoreStepsSaid : Prop := scoreStepsRow.holds Try.pinned (OpenSpec.ofChange scoreStepsSpec)

/-- ITS FALSE NEIGHBOUR: 'it returns false'. Refute it at one input. -/
def scoreStepsWrong : ChangeSpec := { name := "scoreSteps", fn := fun _ => fun
  | [d1, d2, d3, d4] => { results := [.lit (.bool false)], args := [d1, d2, d3, d4] }
  | _ => none }
def ScoreStepsWrongFalsely : Prop := scoreStepsRow.holds Try.pinned (OpenSpec.ofChange scoreStepsWrong)

/-- 'imprimaturlaw01.ScoreWalks': WHATEVER THE INPUT: true; the input reads as it did. -/
def scoreWalksSpec : ChangeSpec := { name := "scoreWalks", fn := fun _ => fun
  | [d1, d2, d3, d4] => { results := [.lit (.bool true)], args := [d1, d2, d3, d4] }
  | _ => none }
def scoreWalksRow : OpenClaim := { program := "ytoepfkmeglnnaaa", sum := "541bce0cd554d8bcad42c307cecfe3dc00553d4f3ea28bde3d2671af1be001d7", func := "imprimatur/imprimaturlaw01.ScoreWalks", spec := "scoreWalks", inPlace := ["math.Float64bits", "math.Float64frombits"], named := ["math/bits.divideError", "math/bits.overflowError"], apart := false }
def ScoreWalksSaid : Prop := scoreWalksRow.holds Try.pinned (OpenSpec.ofChange scoreWalksSpec)

/-- ITS FALSE NEIGHBOUR: 'it returns false'. Refute it at one input. -/
def scoreWalksWrong : ChangeSpec := { name := "scoreWalks", fn := fun _ => fun
  | [d1, d2, d3, d4] => { results := [.lit (.bool false)], args := [d1, d2, d3, d4] }
  | _ => none }
def ScoreWalksWrongFalsely : Prop := scoreWalksRow.holds Try.pinned (OpenSpec.ofChange scoreWalksWrong)

/-- 'imprimaturlaw01.ScoreOrders': WHATEVER THE INPUT: true; the input reads as it did. -/
def scoreOrdersSpec : ChangeSpec := { name := "scoreOrders", fn := fun _ => fun
  | [d] => { results := [.lit (.bool true)], args := [d] }
  | _ => none }
def scoreOrdersRow : OpenClaim := { program := "ytoepfkmeglnnaaa", sum := "541bce0cd554d8bcad42c307cecfe3dc00553d4f3ea28bde3d2671af1be001d7", func := "imprimatur/imprimaturlaw01.ScoreOrders", spec := "scoreOrders", inPlace := ["math.Float64bits", "math.Float64frombits"], unfollowed := true, recurses := true, apart := false }
def ScoreOrdersSaid : Prop := scoreOrdersRow.holds Try.pinned (OpenSpec.ofChange scoreOrdersSpec)

/-- ITS FALSE NEIGHBOUR: 'it returns false'. Refute it at one input. -/
def scoreOrdersWrong : ChangeSpec := { name := "scoreOrders", fn := fun _ => fun
  | [d] => { results := [.lit (.bool false)], args := [d] }
  | _ => none }
def ScoreOrdersWrongFalsely : Prop := scoreOrdersRow.holds Try.pinned (OpenSpec.ofChange scoreOrdersWrong)

/-- 'imprimaturlaw01.ScoreSorted': WHATEVER THE INPUT: true; the input reads as it did. -/
def scoreSortedSpec : ChangeSpec := { name := "scoreSorted", fn := fun _ => fun
  | [d] => { results := [.lit (.bool true)], args := [d] }
  | _ => none }
def scoreSortedRow : OpenClaim := { program := "ytoepfkmeglnnaaa", sum := "541bce0cd554d8bcad42c307cecfe3dc00553d4f3ea28bde3d2671af1be001d7", func := "imprimatur/imprimaturlaw01.ScoreSorted", spec := "scoreSorted", inPlace := ["math.Float64bits", "math.Float64frombits"], unfollowed := true, recurses := true, apart := false }
def ScoreSortedSaid : Prop := scoreSortedRow.holds Try.pinned (OpenSpec.ofChange scoreSortedSpec)

/-- ITS FALSE NEIGHBOUR: 'it returns false'. Refute it at one input. -/
def scoreSortedWrong : ChangeSpec := { name := "scoreSorted", fn := fun _ => fun
  | [d] => { results := [.lit (.bool false)], args := [d] }
  | _ => none }
def ScoreSortedWrongFalsely : Prop := scoreSortedRow.holds Try.pinned (OpenSpec.ofChange scoreSortedWrong)

/- THE SECOND FORM. 'bulk': how many values and letters a reading holds, each counted each time it is reached (what is shared counts as often as it is met; a slice's spare places count too). A statement '..UptoSaid' is the law's where the arguments, and the package variables that the reading takes, are together of bulk at most 1048576: NARROWER than '..Said'. Prove '..Said' where nothing that the law and all that it calls make is longer than what came in: it says more and counts as full. Else prove '..UptoSaid'. A law counts once. -/
mutual
def uptoBulk {H : Type} : DataW H → Nat
  | .lit (.string bytes) => bytes.length + 1
  | .lit _ => 1
  | .nil => 1
  | .ptr d => uptoBulk d + 1
  | .slice elems spare => uptoBulkAll elems + uptoBulkAll spare + 1
  | .agg parts => uptoBulkAll parts + 1
  | .iface _ d => uptoBulk d + 1
  | .map entries => uptoBulkEntries entries + 1
  | .held _ => 1
def uptoBulkAll {H : Type} : List (DataW H) → Nat
  | [] => 0
  | d :: r => uptoBulk d + uptoBulkAll r
def uptoBulkEntries {H : Type} : List (Lit × DataW H) → Nat
  | [] => 0
  | x :: r => uptoBulkEntry x + uptoBulkEntries r
def uptoBulkEntry {H : Type} : Lit × DataW H → Nat
  | (.string bytes, d) => bytes.length + uptoBulk d + 1
  | (_, d) => uptoBulk d + 1
 end
def uptoSmall : (H : Type) → List (DataW H) → Bool := fun _ ds => decide (uptoBulkAll ds ≤ 1048576)
def OpenSpec.upto (s : _root_.Go.ChangeSpec) : _root_.Go.OpenSpec := { _root_.Go.OpenSpec.ofChange s with cond := some uptoSmall }

/-- 'imprimaturlaw01.ScoreCodes', WHERE WHAT IT READS IS OF BULK AT MOST 1048576: true; the input reads as it did. -/
def scoreCodesUptoRow : OpenClaim := { program := "ytoepfkmeglnnaaa", sum := "541bce0cd554d8bcad42c307cecfe3dc00553d4f3ea28bde3d2671af1be001d7", func := "imprimatur/imprimaturlaw01.ScoreCodes", spec := "scoreCodes", inPlace := ["math.Float64bits", "math.Float64frombits"], apart := false, narrowed := true }
def ScoreCodesUptoSaid : Prop := scoreCodesUptoRow.holds Try.pinned (OpenSpec.upto scoreCodesSpec)

/-- 'imprimaturlaw01.ScoreTotals', WHERE WHAT IT READS IS OF BULK AT MOST 1048576: true; the input reads as it did. -/
def scoreTotalsUptoRow : OpenClaim := { program := "ytoepfkmeglnnaaa", sum := "541bce0cd554d8bcad42c307cecfe3dc00553d4f3ea28bde3d2671af1be001d7", func := "imprimatur/imprimaturlaw01.ScoreTotals", spec := "scoreTotals", inPlace := ["math.Float64bits", "math.Float64frombits"], apart := false, narrowed := true }
def ScoreTotalsUptoSaid : Prop := scoreTotalsUptoRow.holds Try.pinned (OpenSpec.upto scoreTotalsSpec)

/-- 'imprimaturlaw01.ScoreBacks', WHERE WHAT IT READS IS OF BULK AT MOST 1048576: true; the input reads as it did. -/
def scoreBacksUptoRow : OpenClaim := { program := "ytoepfkmeglnnaaa", sum := "541bce0cd554d8bcad42c307cecfe3dc00553d4f3ea28bde3d2671af1be001d7", func := "imprimatur/imprimaturlaw01.ScoreBacks", spec := "scoreBacks", inPlace := ["math.Float64frombits", "math.Float64bits"], apart := false, narrowed := true }
def ScoreBacksUptoSaid : Prop := scoreBacksUptoRow.holds Try.pinned (OpenSpec.upto scoreBacksSpec)

/-- 'imprimaturlaw01.ScoreLess', WHERE WHAT IT READS IS OF BULK AT MOST 1048576: true; the input reads as it did. -/
def scoreLessUptoRow : OpenClaim := { program := "ytoepfkmeglnnaaa", sum := "541bce0cd554d8bcad42c307cecfe3dc00553d4f3ea28bde3d2671af1be001d7", func := "imprimatur/imprimaturlaw01.ScoreLess", spec := "scoreLess", inPlace := ["math.Float64bits", "math.Float64frombits"], apart := false, narrowed := true }
def ScoreLessUptoSaid : Prop := scoreLessUptoRow.holds Try.pinned (OpenSpec.upto scoreLessSpec)

/-- 'imprimaturlaw01.ScoreMids', WHERE WHAT IT READS IS OF BULK AT MOST 1048576: true; the input reads as it did. -/
def scoreMidsUptoRow : OpenClaim := { program := "ytoepfkmeglnnaaa", sum := "541bce0cd554d8bcad42c307cecfe3dc00553d4f3ea28bde3d2671af1be001d7", func := "imprimatur/imprimaturlaw01.ScoreMids", spec := "scoreMids", inPlace := ["math.Float64bits", "math.Float64frombits"], recurses := true, apart := false, narrowed := true }
def ScoreMidsUptoSaid : Prop := scoreMidsUptoRow.holds Try.pinned (OpenSpec.upto scoreMidsSpec)

/-- 'imprimaturlaw01.ScoreZeros', WHERE WHAT IT READS IS OF BULK AT MOST 1048576: true; the input reads as it did. -/
def scoreZerosUptoRow : OpenClaim := { program := "ytoepfkmeglnnaaa", sum := "541bce0cd554d8bcad42c307cecfe3dc00553d4f3ea28bde3d2671af1be001d7", func := "imprimatur/imprimaturlaw01.ScoreZeros", spec := "scoreZeros", inPlace := ["math.Float64bits", "math.Float64frombits"], apart := false, narrowed := true }
def ScoreZerosUptoSaid : Prop := scoreZerosUptoRow.holds Try.pinned (OpenSpec.upto scoreZerosSpec)

/-- 'imprimaturlaw01.ScoreBytes', WHERE WHAT IT READS IS OF BULK AT MOST 1048576: true; the input reads as it did. -/
def scoreBytesUptoRow : OpenClaim := { program := "ytoepfkmeglnnaaa", sum := "541bce0cd554d8bcad42c307cecfe3dc00553d4f3ea28bde3d2671af1be001d7", func := "imprimatur/imprimaturlaw01.ScoreBytes", spec := "scoreBytes", inPlace := ["math.Float64bits", "math.Float64frombits"], apart := false, narrowed := true }
def ScoreBytesUptoSaid : Prop := scoreBytesUptoRow.holds Try.pinned (OpenSpec.upto scoreBytesSpec)

/-- 'imprimaturlaw01.ScoreBack', WHERE WHAT IT READS IS OF BULK AT MOST 1048576: true; the input reads as it did. -/
def scoreBackUptoRow : OpenClaim := { program := "ytoepfkmeglnnaaa", sum := "541bce0cd554d8bcad42c307cecfe3dc00553d4f3ea28bde3d2671af1be001d7", func := "imprimatur/imprimaturlaw01.ScoreBack", spec := "scoreBack", inPlace := ["math.Float64bits", "math.Float64frombits"], apart := false, narrowed := true }
def ScoreBackUptoSaid : Prop := scoreBackUptoRow.holds Try.pinned (OpenSpec.upto scoreBackSpec)

/-- 'imprimaturlaw01.ScoreNexts', WHERE WHAT IT READS IS OF BULK AT MOST 1048576: true; the input reads as it did. -/
def scoreNextsUptoRow : OpenClaim := { program := "ytoepfkmeglnnaaa", sum := "541bce0cd554d8bcad42c307cecfe3dc00553d4f3ea28bde3d2671af1be001d7", func := "imprimatur/imprimaturlaw01.ScoreNexts", spec := "scoreNexts", inPlace := ["math.Float64bits", "math.Float64frombits"], apart := false, narrowed := true }
def ScoreNextsUptoSaid : Prop := scoreNextsUptoRow.holds Try.pinned (OpenSpec.upto scoreNextsSpec)

/-- 'imprimaturlaw01.ScoreGap', WHERE WHAT IT READS IS OF BULK AT MOST 1048576: true; the input reads as it did. -/
def scoreGapUptoRow : OpenClaim := { program := "ytoepfkmeglnnaaa", sum := "541bce0cd554d8bcad42c307cecfe3dc00553d4f3ea28bde3d2671af1be001d7", func := "imprimatur/imprimaturlaw01.ScoreGap", spec := "scoreGap", inPlace := ["math.Float64bits", "math.Float64frombits"], apart := false, narrowed := true }
def ScoreGapUptoSaid : Prop := scoreGapUptoRow.holds Try.pinned (OpenSpec.upto scoreGapSpec)

/-- 'imprimaturlaw01.ScoreSteps', WHERE WHAT IT READS IS OF BULK AT MOST 1048576: true; the input reads as it did. -/
def scoreStepsUptoRow : OpenClaim := { program := "ytoepfkmeglnnaaa", sum := "541bce0cd554d8bcad42c307cecfe3dc00553d4f3ea28bde3d2671af1be001d7", func := "imprimatur/imprimaturlaw01.ScoreSteps", spec := "scoreSteps", inPlace := ["math.Float64bits", "math.Float64frombits"], recurses := true, named := ["math/bits.divideError", "math/bits.overflowError"], apart := false, narrowed := true }
def ScoreStepsUptoSaid : Prop := scoreStepsUptoRow.holds Try.pinned (OpenSpec.upto scoreStepsSpec)

/-- 'imprimaturlaw01.ScoreWalks', WHERE WHAT IT READS IS OF BULK AT MOST 1048576: true; the input reads as it did. -/
def scoreWalksUptoRow : OpenClaim := { program := "ytoepfkmeglnnaaa", sum := "541bce0cd554d8bcad42c307cecfe3dc00553d4f3ea28bde3d2671af1be001d7", func := "imprimatur/imprimaturlaw01.ScoreWalks", spec := "scoreWalks", inPlace := ["math.Float64bits", "math.Float64frombits"], named := ["math/bits.divideError", "math/bits.overflowError"], apart := false, narrowed := true }
def ScoreWalksUptoSaid : Prop := scoreWalksUptoRow.holds Try.pinned (OpenSpec.upto scoreWalksSpec)

/-- 'imprimaturlaw01.ScoreOrders', WHERE WHAT IT READS IS OF BULK AT MOST 1048576: true; the input reads as it did. -/
def scoreOrdersUptoRow : OpenClaim := { program := "ytoepfkmeglnnaaa", sum := "541bce0cd554d8bcad42c307cecfe3dc00553d4f3ea28bde3d2671af1be001d7", func := "imprimatur/imprimaturlaw01.ScoreOrders", spec := "scoreOrders", inPlace := ["math.Float64bits", "math.Float64frombits"], unfollowed := true, recurses := true, apart := false, narrowed := true }
def ScoreOrdersUptoSaid : Prop := scoreOrdersUptoRow.holds Try.pinned (OpenSpec.upto scoreOrdersSpec)

/-- 'imprimaturlaw01.ScoreSorted', WHERE WHAT IT READS IS OF BULK AT MOST 1048576: true; the input reads as it did. -/
def scoreSortedUptoRow : OpenClaim := { program := "ytoepfkmeglnnaaa", sum := "541bce0cd554d8bcad42c307cecfe3dc00553d4f3ea28bde3d2671af1be001d7", func := "imprimatur/imprimaturlaw01.ScoreSorted", spec := "scoreSorted", inPlace := ["math.Float64bits", "math.Float64frombits"], unfollowed := true, recurses := true, apart := false, narrowed := true }
def ScoreSortedUptoSaid : Prop := scoreSortedUptoRow.holds Try.pinned (OpenSpec.upto scoreSortedSpec)

end Rows
end Go.Proofs.Ytoepfkmeglnnaaa
