/-
  No cell of these rows narrows 'for every input' (looked for: loops, veiled, ifaces, maps, wideKeys, modest, calm, conditions, laid).
  DERIVED. THE GIVEN ROWS OF THIS SEAT. 6 by the template 'for every input the law returns true; each argument reads behind the call as it read before'; 0 by the template 'total and deterministic' (their statements: YtkdegcpfjfgajaaTotals.lean).
  GIVEN WITH THE SEED: the statements are not yours to turn. If you find one false, say at which input.
  Laid BY PROGRAM, IN A SANDBOX (cutbox-rows.mjs): the forced cells as the released guide's own fill.sh prints them over the translation 76f4988d20af1f39… (all of the seat's roots in one cut). By AI agents, Wed Nov 11 2026. No macro, syntax, notation, axiom, sorry.
-/
import Derived.Test.YtkdegcpfjfgajaaChecked
import GoSem.Claim
import GoSem.ClaimJoined
import GoSem.ClaimMapViews
import Derived.JoinedTies
import Derived.KernelRfl
namespace Go.Proofs.Ytkdegcpfjfgajaa
/- THE CELL 'sum', in the pinned program and in every row, IS THE sha256 OF THE DUMP (.gsa) THAT YtkdegcpfjfgajaaProg.lean LOADS. Nothing in Lean hashes anything: it is a label: what it is worth is what the hold of that sum in a sandbox is worth. -/
noncomputable def Try.pinned : Pinned := { name := "ytkdegcpfjfgajaa", sum := "76f4988d20af1f392bf0b68f9246d46823c22d5a80617631cdc279316f661c46", checked := Try.checked }
namespace Rows
def none {H : Type} : Left H := { results := [], args := [] }

/-- 'imprimaturlaw19.TrainMore': WHATEVER THE INPUT: true; the input reads as it did. -/
def trainMoreSpec : ChangeSpec := { name := "trainMore", fn := fun _ => fun
  | [d1, d2, d3, d4] => { results := [.lit (.bool true)], args := [d1, d2, d3, d4] }
  | _ => none }
def trainMoreRow : OpenClaim := { program := "ytkdegcpfjfgajaa", sum := "76f4988d20af1f392bf0b68f9246d46823c22d5a80617631cdc279316f661c46", func := "imprimatur/imprimaturlaw19.TrainMore", spec := "trainMore", unfollowed := true, recurses := true, plainKeys := false, apart := false }
def TrainMoreSaid : Prop := trainMoreRow.holds Try.pinned (OpenSpec.ofChange trainMoreSpec)

/-- ITS FALSE NEIGHBOUR: 'it returns false'. Refute it at one input. -/
def trainMoreWrong : ChangeSpec := { name := "trainMore", fn := fun _ => fun
  | [d1, d2, d3, d4] => { results := [.lit (.bool false)], args := [d1, d2, d3, d4] }
  | _ => none }
def TrainMoreWrongFalsely : Prop := trainMoreRow.holds Try.pinned (OpenSpec.ofChange trainMoreWrong)

/-- 'imprimaturlaw19.TrainLearns': WHATEVER THE INPUT: true; the input reads as it did. -/
def trainLearnsSpec : ChangeSpec := { name := "trainLearns", fn := fun _ => fun
  | [d1, d2, d3] => { results := [.lit (.bool true)], args := [d1, d2, d3] }
  | _ => none }
def trainLearnsRow : OpenClaim := { program := "ytkdegcpfjfgajaa", sum := "76f4988d20af1f392bf0b68f9246d46823c22d5a80617631cdc279316f661c46", func := "imprimatur/imprimaturlaw19.TrainLearns", spec := "trainLearns", inPlace := ["math.Float64bits"], unfollowed := true, recurses := true, plainKeys := false, apart := false }
def TrainLearnsSaid : Prop := trainLearnsRow.holds Try.pinned (OpenSpec.ofChange trainLearnsSpec)

/-- ITS FALSE NEIGHBOUR: 'it returns false'. Refute it at one input. -/
def trainLearnsWrong : ChangeSpec := { name := "trainLearns", fn := fun _ => fun
  | [d1, d2, d3] => { results := [.lit (.bool false)], args := [d1, d2, d3] }
  | _ => none }
def TrainLearnsWrongFalsely : Prop := trainLearnsRow.holds Try.pinned (OpenSpec.ofChange trainLearnsWrong)

/-- 'imprimaturlaw19.TrainWell': WHATEVER THE INPUT: true; the input reads as it did. -/
def trainWellSpec : ChangeSpec := { name := "trainWell", fn := fun _ => fun
  | [d1, d2, d3] => { results := [.lit (.bool true)], args := [d1, d2, d3] }
  | _ => none }
def trainWellRow : OpenClaim := { program := "ytkdegcpfjfgajaa", sum := "76f4988d20af1f392bf0b68f9246d46823c22d5a80617631cdc279316f661c46", func := "imprimatur/imprimaturlaw19.TrainWell", spec := "trainWell", inPlace := ["math.Float64bits"], unfollowed := true, recurses := true, plainKeys := false, apart := false }
def TrainWellSaid : Prop := trainWellRow.holds Try.pinned (OpenSpec.ofChange trainWellSpec)

/-- ITS FALSE NEIGHBOUR: 'it returns false'. Refute it at one input. -/
def trainWellWrong : ChangeSpec := { name := "trainWell", fn := fun _ => fun
  | [d1, d2, d3] => { results := [.lit (.bool false)], args := [d1, d2, d3] }
  | _ => none }
def TrainWellWrongFalsely : Prop := trainWellRow.holds Try.pinned (OpenSpec.ofChange trainWellWrong)

/-- 'imprimaturlaw19.TrainOrder': WHATEVER THE INPUT: true; the input reads as it did. -/
def trainOrderSpec : ChangeSpec := { name := "trainOrder", fn := fun _ => fun
  | [d1, d2, d3, d4] => { results := [.lit (.bool true)], args := [d1, d2, d3, d4] }
  | _ => none }
def trainOrderRow : OpenClaim := { program := "ytkdegcpfjfgajaa", sum := "76f4988d20af1f392bf0b68f9246d46823c22d5a80617631cdc279316f661c46", func := "imprimatur/imprimaturlaw19.TrainOrder", spec := "trainOrder", inPlace := ["math.Float64bits"], unfollowed := true, recurses := true, plainKeys := false, apart := false }
def TrainOrderSaid : Prop := trainOrderRow.holds Try.pinned (OpenSpec.ofChange trainOrderSpec)

/-- ITS FALSE NEIGHBOUR: 'it returns false'. Refute it at one input. -/
def trainOrderWrong : ChangeSpec := { name := "trainOrder", fn := fun _ => fun
  | [d1, d2, d3, d4] => { results := [.lit (.bool false)], args := [d1, d2, d3, d4] }
  | _ => none }
def TrainOrderWrongFalsely : Prop := trainOrderRow.holds Try.pinned (OpenSpec.ofChange trainOrderWrong)

/-- 'imprimaturlaw19.TrainFits': WHATEVER THE INPUT: true; the input reads as it did. -/
def trainFitsSpec : ChangeSpec := { name := "trainFits", fn := fun _ => fun
  | [d1, d2] => { results := [.lit (.bool true)], args := [d1, d2] }
  | _ => none }
def trainFitsRow : OpenClaim := { program := "ytkdegcpfjfgajaa", sum := "76f4988d20af1f392bf0b68f9246d46823c22d5a80617631cdc279316f661c46", func := "imprimatur/imprimaturlaw19.TrainFits", spec := "trainFits", inPlace := ["math.Float64bits"], unfollowed := true, recurses := true, plainKeys := false, apart := false }
def TrainFitsSaid : Prop := trainFitsRow.holds Try.pinned (OpenSpec.ofChange trainFitsSpec)

/-- ITS FALSE NEIGHBOUR: 'it returns false'. Refute it at one input. -/
def trainFitsWrong : ChangeSpec := { name := "trainFits", fn := fun _ => fun
  | [d1, d2] => { results := [.lit (.bool false)], args := [d1, d2] }
  | _ => none }
def TrainFitsWrongFalsely : Prop := trainFitsRow.holds Try.pinned (OpenSpec.ofChange trainFitsWrong)

/-- 'imprimaturlaw19.TrainWeighs': WHATEVER THE INPUT: true; the input reads as it did. -/
def trainWeighsSpec : ChangeSpec := { name := "trainWeighs", fn := fun _ => fun
  | [d1, d2, d3] => { results := [.lit (.bool true)], args := [d1, d2, d3] }
  | _ => none }
def trainWeighsRow : OpenClaim := { program := "ytkdegcpfjfgajaa", sum := "76f4988d20af1f392bf0b68f9246d46823c22d5a80617631cdc279316f661c46", func := "imprimatur/imprimaturlaw19.TrainWeighs", spec := "trainWeighs", inPlace := ["math.Float64bits"], unfollowed := true, recurses := true, plainKeys := false, apart := false }
def TrainWeighsSaid : Prop := trainWeighsRow.holds Try.pinned (OpenSpec.ofChange trainWeighsSpec)

/-- ITS FALSE NEIGHBOUR: 'it returns false'. Refute it at one input. -/
def trainWeighsWrong : ChangeSpec := { name := "trainWeighs", fn := fun _ => fun
  | [d1, d2, d3] => { results := [.lit (.bool false)], args := [d1, d2, d3] }
  | _ => none }
def TrainWeighsWrongFalsely : Prop := trainWeighsRow.holds Try.pinned (OpenSpec.ofChange trainWeighsWrong)

/- THE SECOND FORM. 'bulk': how many values and letters a reading holds, each counted each time it is reached (what is shared counts as often as it is met; a slice's spare places count too). A statement '..UptoSaid' is the law's where the arguments, and the package variables that the reading takes, are together of bulk at most 1048576: NARROWER than '..Said'. Prove '..Said' where nothing that the law and all that it calls make is longer than what came in: it says more and counts as full. Else prove '..UptoSaid'. A law counts once. -/
mutual
def uptoBulk {H : Type} : DataW H → Nat
  | .lit (.string bytes) => bytes.length + 1
  | .lit _ => 1
  | .nil => 1
  | .ptr d => uptoBulk d + 1
  | .slice elems spare => uptoBulkAll elems + uptoBulkAll spare + 1
  | .agg parts => uptoBulkAll parts + 1
  | .iface _ d => uptoBulk d + 1
  | .map entries => uptoBulkEntries entries + 1
  | .held _ => 1
def uptoBulkAll {H : Type} : List (DataW H) → Nat
  | [] => 0
  | d :: r => uptoBulk d + uptoBulkAll r
def uptoBulkEntries {H : Type} : List (Lit × DataW H) → Nat
  | [] => 0
  | x :: r => uptoBulkEntry x + uptoBulkEntries r
def uptoBulkEntry {H : Type} : Lit × DataW H → Nat
  | (.string bytes, d) => bytes.length + uptoBulk d + 1
  | (_, d) => uptoBulk d + 1
 end
def uptoSmall : (H : Type) → List (DataW H) → Bool := fun _ ds => decide (uptoBulkAll ds ≤ 1048576)
def OpenSpec.upto (s : _root_.Go.ChangeSpec) : _root_.Go.OpenSpec := { _root_.Go.OpenSpec.ofChange s with cond := some uptoSmall }

/-- 'imprimaturlaw19.TrainMore', WHERE WHAT IT READS IS OF BULK AT MOST 1048576: true; the input reads as it did. -/
def trainMoreUptoRow : OpenClaim := { program := "ytkdegcpfjfgajaa", sum := "76f4988d20af1f392bf0b68f9246d46823c22d5a80617631cdc279316f661c46", func := "imprimatur/imprimaturlaw19.TrainMore", spec := "trainMore", unfollowed := true, recurses := true, plainKeys := false, apart := false, narrowed := true }
def TrainMoreUptoSaid : Prop := trainMoreUptoRow.holds Try.pinned (OpenSpec.upto trainMoreSpec)

/-- 'imprimaturlaw19.TrainLearns', WHERE WHAT IT READS IS OF BULK AT MOST 1048576: true; the input reads as it did. -/
def trainLearnsUptoRow : OpenClaim := { program := "ytkdegcpfjfgajaa", sum := "76f4988d20af1f392bf0b68f9246d46823c22d5a80617631cdc279316f661c46", func := "imprimatur/imprimaturlaw19.TrainLearns", spec := "trainLearns", inPlace := ["math.Float64bits"], unfollowed := true, recurses := true, plainKeys := false, apart := false, narrowed := true }
def TrainLearnsUptoSaid : Prop := trainLearnsUptoRow.holds Try.pinned (OpenSpec.upto trainLearnsSpec)

/-- 'imprimaturlaw19.TrainWell', WHERE WHAT IT READS IS OF BULK AT MOST 1048576: true; the input reads as it did. -/
def trainWellUptoRow : OpenClaim := { program := "ytkdegcpfjfgajaa", sum := "76f4988d20af1f392bf0b68f9246d46823c22d5a80617631cdc279316f661c46", func := "imprimatur/imprimaturlaw19.TrainWell", spec := "trainWell", inPlace := ["math.Float64bits"], unfollowed := true, recurses := true, plainKeys := false, apart := false, narrowed := true }
def TrainWellUptoSaid : Prop := trainWellUptoRow.holds Try.pinned (OpenSpec.upto trainWellSpec)

/-- 'imprimaturlaw19.TrainOrder', WHERE WHAT IT READS IS OF BULK AT MOST 1048576: true; the input reads as it did. -/
def trainOrderUptoRow : OpenClaim := { program := "ytkdegcpfjfgajaa", sum := "76f4988d20af1f392bf0b68f9246d46823c22d5a80617631cdc279316f661c46", func := "imprimatur/imprimaturlaw19.TrainOrder", spec := "trainOrder", inPlace := ["math.Float64bits"], unfollowed := true, recurses := true, plainKeys := false, apart := false, narrowed := true }
def TrainOrderUptoSaid : Prop := trainOrderUptoRow.holds Try.pinned (OpenSpec.upto trainOrderSpec)

/-- 'imprimaturlaw19.TrainFits', WHERE WHAT IT READS IS OF BULK AT MOST 1048576: true; the input reads as it did. -/
def trainFitsUptoRow : OpenClaim := { program := "ytkdegcpfjfgajaa", sum := "76f4988d20af1f392bf0b68f9246d46823c22d5a80617631cdc279316f661c46", func := "imprimatur/imprimaturlaw19.TrainFits", spec := "trainFits", inPlace := ["math.Float64bits"], unfollowed := true, recurses := true, plainKeys := false, apart := false, narrowed := true }
def TrainFitsUptoSaid : Prop := trainFitsUptoRow.holds Try.pinned (OpenSpec.upto trainFitsSpec)

/-- 'imprimaturlaw19.TrainWeighs', WHERE WHAT IT READS IS OF BULK AT MOST 1048576: true; the input reads as it did. -/
def trainWeighsUptoRow : OpenClaim := { program := "ytkdegcpfjfgajaa", sum := "76f4988d20af1f392bf0b68f9246d46823c22d5a80617631cdc279316f661c46", func := "imprimatur/imprimaturlaw19.TrainWeighs", spec := "trainWeighs", inPlace := ["math.Float64bits"], unfollowed := true, recurses := true, plainKeys := false, apart := false, narrowed := true }
def TrainWeighsUptoSaid : Prop := trainWeighsUptoRow.holds Try.pinned (OpenSpec.upto trainWeighsSpec)

end Rows
end Go.Proofs.Ytkdegcpfjfgajaa
