/-
  No cell of these rows narrows 'for every input' (looked for: loops, veiled, ifaces, maps, wideKeys, modest, calm, conditions, laid).
  DERIVED. THE GIVEN ROWS OF THIS SEAT. 12 by the template 'for every input the law returns true; each argument reads behind the call as it read before'; 0 by the template 'total and deterministic' (their statements: YtlgagppdipdkeaaTotals.lean).
  GIVEN WITH THE SEED: the statements are not yours to turn. If you find one false, say at which input.
  Laid BY PROGRAM, IN A SANDBOX (cutbox-rows.mjs): the forced cells as the released guide's own fill.sh prints them over the translation 1999026a70100a2c… (all of the seat's roots in one cut). By AI agents, Wed Nov 11 2026. No macro, syntax, notation, axiom, sorry.
-/
import Derived.Test.YtlgagppdipdkeaaChecked
import GoSem.Claim
import GoSem.ClaimJoined
import GoSem.ClaimMapViews
import Derived.JoinedTies
import Derived.KernelRfl
namespace Go.Proofs.Ytlgagppdipdkeaa
/- THE CELL 'sum', in the pinned program and in every row, IS THE sha256 OF THE DUMP (.gsa) THAT YtlgagppdipdkeaaProg.lean LOADS. Nothing in Lean hashes anything: it is a label: what it is worth is what the hold of that sum in a sandbox is worth. -/
noncomputable def Try.pinned : Pinned := { name := "ytlgagppdipdkeaa", sum := "1999026a70100a2cf51842c03dbf49d681b0fbe648f7db5b0ec9b748f6ecf4f0", checked := Try.checked }
namespace Rows
def none {H : Type} : Left H := { results := [], args := [] }

/-- 'imprimaturlaw11.VocabChecks': WHATEVER THE INPUT: true; the input reads as it did. -/
def vocabChecksSpec : ChangeSpec := { name := "vocabChecks", fn := fun _ => fun
  | [d] => { results := [.lit (.bool true)], args := [d] }
  | _ => none }
def vocabChecksRow : OpenClaim := { program := "ytlgagppdipdkeaa", sum := "1999026a70100a2cf51842c03dbf49d681b0fbe648f7db5b0ec9b748f6ecf4f0", func := "imprimatur/imprimaturlaw11.VocabChecks", spec := "vocabChecks", inPlace := ["math.Float64bits", "math.Float64frombits"], unfollowed := true, recurses := true, plainKeys := false, apart := false }
def VocabChecksSaid : Prop := vocabChecksRow.holds Try.pinned (OpenSpec.ofChange vocabChecksSpec)

/-- ITS FALSE NEIGHBOUR: 'it returns false'. Refute it at one input. -/
def vocabChecksWrong : ChangeSpec := { name := "vocabChecks", fn := fun _ => fun
  | [d] => { results := [.lit (.bool false)], args := [d] }
  | _ => none }
def VocabChecksWrongFalsely : Prop := vocabChecksRow.holds Try.pinned (OpenSpec.ofChange vocabChecksWrong)

/-- 'imprimaturlaw11.VocabWrites': WHATEVER THE INPUT: true; the input reads as it did. -/
def vocabWritesSpec : ChangeSpec := { name := "vocabWrites", fn := fun _ => fun
  | [d] => { results := [.lit (.bool true)], args := [d] }
  | _ => none }
def vocabWritesRow : OpenClaim := { program := "ytlgagppdipdkeaa", sum := "1999026a70100a2cf51842c03dbf49d681b0fbe648f7db5b0ec9b748f6ecf4f0", func := "imprimatur/imprimaturlaw11.VocabWrites", spec := "vocabWrites", inPlace := ["math.Float64bits", "math.Float64frombits"], unfollowed := true, recurses := true, plainKeys := false, apart := false }
def VocabWritesSaid : Prop := vocabWritesRow.holds Try.pinned (OpenSpec.ofChange vocabWritesSpec)

/-- ITS FALSE NEIGHBOUR: 'it returns false'. Refute it at one input. -/
def vocabWritesWrong : ChangeSpec := { name := "vocabWrites", fn := fun _ => fun
  | [d] => { results := [.lit (.bool false)], args := [d] }
  | _ => none }
def VocabWritesWrongFalsely : Prop := vocabWritesRow.holds Try.pinned (OpenSpec.ofChange vocabWritesWrong)

/-- 'imprimaturlaw11.VocabSpells': WHATEVER THE INPUT: true; the input reads as it did. -/
def vocabSpellsSpec : ChangeSpec := { name := "vocabSpells", fn := fun _ => fun
  | [d] => { results := [.lit (.bool true)], args := [d] }
  | _ => none }
def vocabSpellsRow : OpenClaim := { program := "ytlgagppdipdkeaa", sum := "1999026a70100a2cf51842c03dbf49d681b0fbe648f7db5b0ec9b748f6ecf4f0", func := "imprimatur/imprimaturlaw11.VocabSpells", spec := "vocabSpells", inPlace := ["math.Float64bits", "math.Float64frombits"], unfollowed := true, recurses := true, plainKeys := false, apart := false }
def VocabSpellsSaid : Prop := vocabSpellsRow.holds Try.pinned (OpenSpec.ofChange vocabSpellsSpec)

/-- ITS FALSE NEIGHBOUR: 'it returns false'. Refute it at one input. -/
def vocabSpellsWrong : ChangeSpec := { name := "vocabSpells", fn := fun _ => fun
  | [d] => { results := [.lit (.bool false)], args := [d] }
  | _ => none }
def VocabSpellsWrongFalsely : Prop := vocabSpellsRow.holds Try.pinned (OpenSpec.ofChange vocabSpellsWrong)

/-- 'imprimaturlaw11.VocabLess': WHATEVER THE INPUT: true; the input reads as it did. -/
def vocabLessSpec : ChangeSpec := { name := "vocabLess", fn := fun _ => fun
  | [d] => { results := [.lit (.bool true)], args := [d] }
  | _ => none }
def vocabLessRow : OpenClaim := { program := "ytlgagppdipdkeaa", sum := "1999026a70100a2cf51842c03dbf49d681b0fbe648f7db5b0ec9b748f6ecf4f0", func := "imprimatur/imprimaturlaw11.VocabLess", spec := "vocabLess", inPlace := ["math.Float64bits", "math.Float64frombits"], unfollowed := true, recurses := true, plainKeys := false, apart := false }
def VocabLessSaid : Prop := vocabLessRow.holds Try.pinned (OpenSpec.ofChange vocabLessSpec)

/-- ITS FALSE NEIGHBOUR: 'it returns false'. Refute it at one input. -/
def vocabLessWrong : ChangeSpec := { name := "vocabLess", fn := fun _ => fun
  | [d] => { results := [.lit (.bool false)], args := [d] }
  | _ => none }
def VocabLessWrongFalsely : Prop := vocabLessRow.holds Try.pinned (OpenSpec.ofChange vocabLessWrong)

/-- 'imprimaturlaw11.VocabNeeds': WHATEVER THE INPUT: true; the input reads as it did. -/
def vocabNeedsSpec : ChangeSpec := { name := "vocabNeeds", fn := fun _ => fun
  | [d1, d2] => { results := [.lit (.bool true)], args := [d1, d2] }
  | _ => none }
def vocabNeedsRow : OpenClaim := { program := "ytlgagppdipdkeaa", sum := "1999026a70100a2cf51842c03dbf49d681b0fbe648f7db5b0ec9b748f6ecf4f0", func := "imprimatur/imprimaturlaw11.VocabNeeds", spec := "vocabNeeds", inPlace := ["math.Float64bits", "math.Float64frombits"], unfollowed := true, recurses := true, plainKeys := false, apart := false }
def VocabNeedsSaid : Prop := vocabNeedsRow.holds Try.pinned (OpenSpec.ofChange vocabNeedsSpec)

/-- ITS FALSE NEIGHBOUR: 'it returns false'. Refute it at one input. -/
def vocabNeedsWrong : ChangeSpec := { name := "vocabNeeds", fn := fun _ => fun
  | [d1, d2] => { results := [.lit (.bool false)], args := [d1, d2] }
  | _ => none }
def VocabNeedsWrongFalsely : Prop := vocabNeedsRow.holds Try.pinned (OpenSpec.ofChange vocabNeedsWrong)

/-- 'imprimaturlaw11.VocabMany': WHATEVER THE INPUT: true; the input reads as it did. -/
def vocabManySpec : ChangeSpec := { name := "vocabMany", fn := fun _ => fun
  | [d] => { results := [.lit (.bool true)], args := [d] }
  | _ => none }
def vocabManyRow : OpenClaim := { program := "ytlgagppdipdkeaa", sum := "1999026a70100a2cf51842c03dbf49d681b0fbe648f7db5b0ec9b748f6ecf4f0", func := "imprimatur/imprimaturlaw11.VocabMany", spec := "vocabMany", inPlace := ["math.Float64bits", "math.Float64frombits"], unfollowed := true, recurses := true, plainKeys := false, apart := false }
def VocabManySaid : Prop := vocabManyRow.holds Try.pinned (OpenSpec.ofChange vocabManySpec)

/-- ITS FALSE NEIGHBOUR: 'it returns false'. Refute it at one input. -/
def vocabManyWrong : ChangeSpec := { name := "vocabMany", fn := fun _ => fun
  | [d] => { results := [.lit (.bool false)], args := [d] }
  | _ => none }
def VocabManyWrongFalsely : Prop := vocabManyRow.holds Try.pinned (OpenSpec.ofChange vocabManyWrong)

/-- 'imprimaturlaw11.VocabChanges': WHATEVER THE INPUT: true; the input reads as it did. -/
def vocabChangesSpec : ChangeSpec := { name := "vocabChanges", fn := fun _ => fun
  | [d1, d2] => { results := [.lit (.bool true)], args := [d1, d2] }
  | _ => none }
def vocabChangesRow : OpenClaim := { program := "ytlgagppdipdkeaa", sum := "1999026a70100a2cf51842c03dbf49d681b0fbe648f7db5b0ec9b748f6ecf4f0", func := "imprimatur/imprimaturlaw11.VocabChanges", spec := "vocabChanges", inPlace := ["math.Float64bits", "math.Float64frombits"], unfollowed := true, recurses := true, plainKeys := false, apart := false }
def VocabChangesSaid : Prop := vocabChangesRow.holds Try.pinned (OpenSpec.ofChange vocabChangesSpec)

/-- ITS FALSE NEIGHBOUR: 'it returns false'. Refute it at one input. -/
def vocabChangesWrong : ChangeSpec := { name := "vocabChanges", fn := fun _ => fun
  | [d1, d2] => { results := [.lit (.bool false)], args := [d1, d2] }
  | _ => none }
def VocabChangesWrongFalsely : Prop := vocabChangesRow.holds Try.pinned (OpenSpec.ofChange vocabChangesWrong)

/-- 'imprimaturlaw11.VocabTurns': WHATEVER THE INPUT: true; the input reads as it did. -/
def vocabTurnsSpec : ChangeSpec := { name := "vocabTurns", fn := fun _ => fun
  | [d1, d2] => { results := [.lit (.bool true)], args := [d1, d2] }
  | _ => none }
def vocabTurnsRow : OpenClaim := { program := "ytlgagppdipdkeaa", sum := "1999026a70100a2cf51842c03dbf49d681b0fbe648f7db5b0ec9b748f6ecf4f0", func := "imprimatur/imprimaturlaw11.VocabTurns", spec := "vocabTurns", inPlace := ["math.Float64bits", "math.Float64frombits"], unfollowed := true, recurses := true, plainKeys := false, apart := false }
def VocabTurnsSaid : Prop := vocabTurnsRow.holds Try.pinned (OpenSpec.ofChange vocabTurnsSpec)

/-- ITS FALSE NEIGHBOUR: 'it returns false'. Refute it at one input. -/
def vocabTurnsWrong : ChangeSpec := { name := "vocabTurns", fn := fun _ => fun
  | [d1, d2] => { results := [.lit (.bool false)], args := [d1, d2] }
  | _ => none }
def VocabTurnsWrongFalsely : Prop := vocabTurnsRow.holds Try.pinned (OpenSpec.ofChange vocabTurnsWrong)

/-- 'imprimaturlaw11.VocabNil': WHATEVER THE INPUT: true; the input reads as it did. -/
def vocabNilSpec : ChangeSpec := { name := "vocabNil", fn := fun _ => fun
  | [d1, d2] => { results := [.lit (.bool true)], args := [d1, d2] }
  | _ => none }
def vocabNilRow : OpenClaim := { program := "ytlgagppdipdkeaa", sum := "1999026a70100a2cf51842c03dbf49d681b0fbe648f7db5b0ec9b748f6ecf4f0", func := "imprimatur/imprimaturlaw11.VocabNil", spec := "vocabNil", inPlace := ["math.Float64bits", "math.Float64frombits"], unfollowed := true, recurses := true, plainKeys := false, apart := false }
def VocabNilSaid : Prop := vocabNilRow.holds Try.pinned (OpenSpec.ofChange vocabNilSpec)

/-- ITS FALSE NEIGHBOUR: 'it returns false'. Refute it at one input. -/
def vocabNilWrong : ChangeSpec := { name := "vocabNil", fn := fun _ => fun
  | [d1, d2] => { results := [.lit (.bool false)], args := [d1, d2] }
  | _ => none }
def VocabNilWrongFalsely : Prop := vocabNilRow.holds Try.pinned (OpenSpec.ofChange vocabNilWrong)

/-- 'imprimaturlaw11.VocabTables': WHATEVER THE INPUT: true; the input reads as it did. -/
def vocabTablesSpec : ChangeSpec := { name := "vocabTables", fn := fun _ => fun
  | [d1, d2, d3, d4, d5] => { results := [.lit (.bool true)], args := [d1, d2, d3, d4, d5] }
  | _ => none }
def vocabTablesRow : OpenClaim := { program := "ytlgagppdipdkeaa", sum := "1999026a70100a2cf51842c03dbf49d681b0fbe648f7db5b0ec9b748f6ecf4f0", func := "imprimatur/imprimaturlaw11.VocabTables", spec := "vocabTables", inPlace := ["math.Float64bits", "math.Float64frombits"], unfollowed := true, recurses := true, plainKeys := false, apart := false }
def VocabTablesSaid : Prop := vocabTablesRow.holds Try.pinned (OpenSpec.ofChange vocabTablesSpec)

/-- ITS FALSE NEIGHBOUR: 'it returns false'. Refute it at one input. -/
def vocabTablesWrong : ChangeSpec := { name := "vocabTables", fn := fun _ => fun
  | [d1, d2, d3, d4, d5] => { results := [.lit (.bool false)], args := [d1, d2, d3, d4, d5] }
  | _ => none }
def VocabTablesWrongFalsely : Prop := vocabTablesRow.holds Try.pinned (OpenSpec.ofChange vocabTablesWrong)

/-- 'imprimaturlaw11.VocabBack': WHATEVER THE INPUT: true; the input reads as it did. -/
def vocabBackSpec : ChangeSpec := { name := "vocabBack", fn := fun _ => fun
  | [d1, d2] => { results := [.lit (.bool true)], args := [d1, d2] }
  | _ => none }
def vocabBackRow : OpenClaim := { program := "ytlgagppdipdkeaa", sum := "1999026a70100a2cf51842c03dbf49d681b0fbe648f7db5b0ec9b748f6ecf4f0", func := "imprimatur/imprimaturlaw11.VocabBack", spec := "vocabBack", inPlace := ["math.Float64bits", "math.Float64frombits"], unfollowed := true, recurses := true, plainKeys := false, apart := false }
def VocabBackSaid : Prop := vocabBackRow.holds Try.pinned (OpenSpec.ofChange vocabBackSpec)

/-- ITS FALSE NEIGHBOUR: 'it returns false'. Refute it at one input. -/
def vocabBackWrong : ChangeSpec := { name := "vocabBack", fn := fun _ => fun
  | [d1, d2] => { results := [.lit (.bool false)], args := [d1, d2] }
  | _ => none }
def VocabBackWrongFalsely : Prop := vocabBackRow.holds Try.pinned (OpenSpec.ofChange vocabBackWrong)

/-- 'imprimaturlaw11.VocabReads': WHATEVER THE INPUT: true; the input reads as it did. -/
def vocabReadsSpec : ChangeSpec := { name := "vocabReads", fn := fun _ => fun
  | [d] => { results := [.lit (.bool true)], args := [d] }
  | _ => none }
def vocabReadsRow : OpenClaim := { program := "ytlgagppdipdkeaa", sum := "1999026a70100a2cf51842c03dbf49d681b0fbe648f7db5b0ec9b748f6ecf4f0", func := "imprimatur/imprimaturlaw11.VocabReads", spec := "vocabReads", inPlace := ["math.Float64bits", "math.Float64frombits"], unfollowed := true, recurses := true, plainKeys := false, apart := false }
def VocabReadsSaid : Prop := vocabReadsRow.holds Try.pinned (OpenSpec.ofChange vocabReadsSpec)

/-- ITS FALSE NEIGHBOUR: 'it returns false'. Refute it at one input. -/
def vocabReadsWrong : ChangeSpec := { name := "vocabReads", fn := fun _ => fun
  | [d] => { results := [.lit (.bool false)], args := [d] }
  | _ => none }
def VocabReadsWrongFalsely : Prop := vocabReadsRow.holds Try.pinned (OpenSpec.ofChange vocabReadsWrong)

/- THE SECOND FORM. 'bulk': how many values and letters a reading holds, each counted each time it is reached (what is shared counts as often as it is met; a slice's spare places count too). A statement '..UptoSaid' is the law's where the arguments, and the package variables that the reading takes, are together of bulk at most 1048576: NARROWER than '..Said'. Prove '..Said' where nothing that the law and all that it calls make is longer than what came in: it says more and counts as full. Else prove '..UptoSaid'. A law counts once. -/
mutual
def uptoBulk {H : Type} : DataW H → Nat
  | .lit (.string bytes) => bytes.length + 1
  | .lit _ => 1
  | .nil => 1
  | .ptr d => uptoBulk d + 1
  | .slice elems spare => uptoBulkAll elems + uptoBulkAll spare + 1
  | .agg parts => uptoBulkAll parts + 1
  | .iface _ d => uptoBulk d + 1
  | .map entries => uptoBulkEntries entries + 1
  | .held _ => 1
def uptoBulkAll {H : Type} : List (DataW H) → Nat
  | [] => 0
  | d :: r => uptoBulk d + uptoBulkAll r
def uptoBulkEntries {H : Type} : List (Lit × DataW H) → Nat
  | [] => 0
  | x :: r => uptoBulkEntry x + uptoBulkEntries r
def uptoBulkEntry {H : Type} : Lit × DataW H → Nat
  | (.string bytes, d) => bytes.length + uptoBulk d + 1
  | (_, d) => uptoBulk d + 1
 end
def uptoSmall : (H : Type) → List (DataW H) → Bool := fun _ ds => decide (uptoBulkAll ds ≤ 1048576)
def OpenSpec.upto (s : _root_.Go.ChangeSpec) : _root_.Go.OpenSpec := { _root_.Go.OpenSpec.ofChange s with cond := some uptoSmall }

/-- 'imprimaturlaw11.VocabChecks', WHERE WHAT IT READS IS OF BULK AT MOST 1048576: true; the input reads as it did. -/
def vocabChecksUptoRow : OpenClaim := { program := "ytlgagppdipdkeaa", sum := "1999026a70100a2cf51842c03dbf49d681b0fbe648f7db5b0ec9b748f6ecf4f0", func := "imprimatur/imprimaturlaw11.VocabChecks", spec := "vocabChecks", inPlace := ["math.Float64bits", "math.Float64frombits"], unfollowed := true, recurses := true, plainKeys := false, apart := false, narrowed := true }
def VocabChecksUptoSaid : Prop := vocabChecksUptoRow.holds Try.pinned (OpenSpec.upto vocabChecksSpec)

/-- 'imprimaturlaw11.VocabWrites', WHERE WHAT IT READS IS OF BULK AT MOST 1048576: true; the input reads as it did. -/
def vocabWritesUptoRow : OpenClaim := { program := "ytlgagppdipdkeaa", sum := "1999026a70100a2cf51842c03dbf49d681b0fbe648f7db5b0ec9b748f6ecf4f0", func := "imprimatur/imprimaturlaw11.VocabWrites", spec := "vocabWrites", inPlace := ["math.Float64bits", "math.Float64frombits"], unfollowed := true, recurses := true, plainKeys := false, apart := false, narrowed := true }
def VocabWritesUptoSaid : Prop := vocabWritesUptoRow.holds Try.pinned (OpenSpec.upto vocabWritesSpec)

/-- 'imprimaturlaw11.VocabSpells', WHERE WHAT IT READS IS OF BULK AT MOST 1048576: true; the input reads as it did. -/
def vocabSpellsUptoRow : OpenClaim := { program := "ytlgagppdipdkeaa", sum := "1999026a70100a2cf51842c03dbf49d681b0fbe648f7db5b0ec9b748f6ecf4f0", func := "imprimatur/imprimaturlaw11.VocabSpells", spec := "vocabSpells", inPlace := ["math.Float64bits", "math.Float64frombits"], unfollowed := true, recurses := true, plainKeys := false, apart := false, narrowed := true }
def VocabSpellsUptoSaid : Prop := vocabSpellsUptoRow.holds Try.pinned (OpenSpec.upto vocabSpellsSpec)

/-- 'imprimaturlaw11.VocabLess', WHERE WHAT IT READS IS OF BULK AT MOST 1048576: true; the input reads as it did. -/
def vocabLessUptoRow : OpenClaim := { program := "ytlgagppdipdkeaa", sum := "1999026a70100a2cf51842c03dbf49d681b0fbe648f7db5b0ec9b748f6ecf4f0", func := "imprimatur/imprimaturlaw11.VocabLess", spec := "vocabLess", inPlace := ["math.Float64bits", "math.Float64frombits"], unfollowed := true, recurses := true, plainKeys := false, apart := false, narrowed := true }
def VocabLessUptoSaid : Prop := vocabLessUptoRow.holds Try.pinned (OpenSpec.upto vocabLessSpec)

/-- 'imprimaturlaw11.VocabNeeds', WHERE WHAT IT READS IS OF BULK AT MOST 1048576: true; the input reads as it did. -/
def vocabNeedsUptoRow : OpenClaim := { program := "ytlgagppdipdkeaa", sum := "1999026a70100a2cf51842c03dbf49d681b0fbe648f7db5b0ec9b748f6ecf4f0", func := "imprimatur/imprimaturlaw11.VocabNeeds", spec := "vocabNeeds", inPlace := ["math.Float64bits", "math.Float64frombits"], unfollowed := true, recurses := true, plainKeys := false, apart := false, narrowed := true }
def VocabNeedsUptoSaid : Prop := vocabNeedsUptoRow.holds Try.pinned (OpenSpec.upto vocabNeedsSpec)

/-- 'imprimaturlaw11.VocabMany', WHERE WHAT IT READS IS OF BULK AT MOST 1048576: true; the input reads as it did. -/
def vocabManyUptoRow : OpenClaim := { program := "ytlgagppdipdkeaa", sum := "1999026a70100a2cf51842c03dbf49d681b0fbe648f7db5b0ec9b748f6ecf4f0", func := "imprimatur/imprimaturlaw11.VocabMany", spec := "vocabMany", inPlace := ["math.Float64bits", "math.Float64frombits"], unfollowed := true, recurses := true, plainKeys := false, apart := false, narrowed := true }
def VocabManyUptoSaid : Prop := vocabManyUptoRow.holds Try.pinned (OpenSpec.upto vocabManySpec)

/-- 'imprimaturlaw11.VocabChanges', WHERE WHAT IT READS IS OF BULK AT MOST 1048576: true; the input reads as it did. -/
def vocabChangesUptoRow : OpenClaim := { program := "ytlgagppdipdkeaa", sum := "1999026a70100a2cf51842c03dbf49d681b0fbe648f7db5b0ec9b748f6ecf4f0", func := "imprimatur/imprimaturlaw11.VocabChanges", spec := "vocabChanges", inPlace := ["math.Float64bits", "math.Float64frombits"], unfollowed := true, recurses := true, plainKeys := false, apart := false, narrowed := true }
def VocabChangesUptoSaid : Prop := vocabChangesUptoRow.holds Try.pinned (OpenSpec.upto vocabChangesSpec)

/-- 'imprimaturlaw11.VocabTurns', WHERE WHAT IT READS IS OF BULK AT MOST 1048576: true; the input reads as it did. -/
def vocabTurnsUptoRow : OpenClaim := { program := "ytlgagppdipdkeaa", sum := "1999026a70100a2cf51842c03dbf49d681b0fbe648f7db5b0ec9b748f6ecf4f0", func := "imprimatur/imprimaturlaw11.VocabTurns", spec := "vocabTurns", inPlace := ["math.Float64bits", "math.Float64frombits"], unfollowed := true, recurses := true, plainKeys := false, apart := false, narrowed := true }
def VocabTurnsUptoSaid : Prop := vocabTurnsUptoRow.holds Try.pinned (OpenSpec.upto vocabTurnsSpec)

/-- 'imprimaturlaw11.VocabNil', WHERE WHAT IT READS IS OF BULK AT MOST 1048576: true; the input reads as it did. -/
def vocabNilUptoRow : OpenClaim := { program := "ytlgagppdipdkeaa", sum := "1999026a70100a2cf51842c03dbf49d681b0fbe648f7db5b0ec9b748f6ecf4f0", func := "imprimatur/imprimaturlaw11.VocabNil", spec := "vocabNil", inPlace := ["math.Float64bits", "math.Float64frombits"], unfollowed := true, recurses := true, plainKeys := false, apart := false, narrowed := true }
def VocabNilUptoSaid : Prop := vocabNilUptoRow.holds Try.pinned (OpenSpec.upto vocabNilSpec)

/-- 'imprimaturlaw11.VocabTables', WHERE WHAT IT READS IS OF BULK AT MOST 1048576: true; the input reads as it did. -/
def vocabTablesUptoRow : OpenClaim := { program := "ytlgagppdipdkeaa", sum := "1999026a70100a2cf51842c03dbf49d681b0fbe648f7db5b0ec9b748f6ecf4f0", func := "imprimatur/imprimaturlaw11.VocabTables", spec := "vocabTables", inPlace := ["math.Float64bits", "math.Float64frombits"], unfollowed := true, recurses := true, plainKeys := false, apart := false, narrowed := true }
def VocabTablesUptoSaid : Prop := vocabTablesUptoRow.holds Try.pinned (OpenSpec.upto vocabTablesSpec)

/-- 'imprimaturlaw11.VocabBack', WHERE WHAT IT READS IS OF BULK AT MOST 1048576: true; the input reads as it did. -/
def vocabBackUptoRow : OpenClaim := { program := "ytlgagppdipdkeaa", sum := "1999026a70100a2cf51842c03dbf49d681b0fbe648f7db5b0ec9b748f6ecf4f0", func := "imprimatur/imprimaturlaw11.VocabBack", spec := "vocabBack", inPlace := ["math.Float64bits", "math.Float64frombits"], unfollowed := true, recurses := true, plainKeys := false, apart := false, narrowed := true }
def VocabBackUptoSaid : Prop := vocabBackUptoRow.holds Try.pinned (OpenSpec.upto vocabBackSpec)

/-- 'imprimaturlaw11.VocabReads', WHERE WHAT IT READS IS OF BULK AT MOST 1048576: true; the input reads as it did. -/
def vocabReadsUptoRow : OpenClaim := { program := "ytlgagppdipdkeaa", sum := "1999026a70100a2cf51842c03dbf49d681b0fbe648f7db5b0ec9b748f6ecf4f0", func := "imprimatur/imprimaturlaw11.VocabReads", spec := "vocabReads", inPlace := ["math.Float64bits", "math.Float64frombits"], unfollowed := true, recurses := true, plainKeys := false, apart := false, narrowed := true }
def VocabReadsUptoSaid : Prop := vocabReadsUptoRow.holds Try.pinned (OpenSpec.upto vocabReadsSpec)

end Rows
end Go.Proofs.Ytlgagppdipdkeaa
