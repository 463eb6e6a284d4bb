/-
  NARROWER THAN 'FOR EVERY INPUT', by the rows' own cells (each row's printed sentence says how): WireWrites: loops · WireBack: loops · WireCut: loops · WireMore: loops · WireMakes: loops · WireFields: loops · WireNil: loops.
  DERIVED. THE GIVEN ROWS OF THIS SEAT. 10 by the template 'for every input the law returns true; each argument reads behind the call as it read before'; 0 by the template 'total and deterministic' (their statements: YtgijcafgnonjjaaTotals.lean).
  GIVEN WITH THE SEED: the statements are not yours to turn. If you find one false, say at which input.
  Laid BY PROGRAM, IN A SANDBOX (cutbox-rows.mjs): the forced cells as the released guide's own fill.sh prints them over the translation 56bc8914dc6b2fba… (all of the seat's roots in one cut). By AI agents, Wed Nov 11 2026. No macro, syntax, notation, axiom, sorry.
-/
import Derived.Test.YtgijcafgnonjjaaChecked
import GoSem.Claim
import GoSem.ClaimJoined
import GoSem.ClaimMapViews
import Derived.JoinedTies
import Derived.KernelRfl
namespace Go.Proofs.Ytgijcafgnonjjaa
/- THE CELL 'sum', in the pinned program and in every row, IS THE sha256 OF THE DUMP (.gsa) THAT YtgijcafgnonjjaaProg.lean LOADS. Nothing in Lean hashes anything: it is a label: what it is worth is what the hold of that sum in a sandbox is worth. -/
noncomputable def Try.pinned : Pinned := { name := "ytgijcafgnonjjaa", sum := "56bc8914dc6b2fbab3bfaaf0287a008fe2bfbf3547fee8f349518567bd8c49a2", checked := Try.checked }
namespace Rows
def none {H : Type} : Left H := { results := [], args := [] }

/-- 'imprimaturlaw03.WireWrites': WHATEVER THE INPUT: true; the input reads as it did. -/
def wireWritesSpec : ChangeSpec := { name := "wireWrites", fn := fun _ => fun
  | [d1, d2] => { results := [.lit (.bool true)], args := [d1, d2] }
  | _ => none }
def wireWritesRow : OpenClaim := { program := "ytgijcafgnonjjaa", sum := "56bc8914dc6b2fbab3bfaaf0287a008fe2bfbf3547fee8f349518567bd8c49a2", func := "imprimatur/imprimaturlaw03.WireWrites", spec := "wireWrites", unfollowed := true, recurses := true, loops := true, apart := false }
def WireWritesSaid : Prop := wireWritesRow.holds Try.pinned (OpenSpec.ofChange wireWritesSpec)

/-- ITS FALSE NEIGHBOUR: 'it returns false'. Refute it at one input. -/
def wireWritesWrong : ChangeSpec := { name := "wireWrites", fn := fun _ => fun
  | [d1, d2] => { results := [.lit (.bool false)], args := [d1, d2] }
  | _ => none }
def WireWritesWrongFalsely : Prop := wireWritesRow.holds Try.pinned (OpenSpec.ofChange wireWritesWrong)

/-- 'imprimaturlaw03.WireReads': WHATEVER THE INPUT: true; the input reads as it did. -/
def wireReadsSpec : ChangeSpec := { name := "wireReads", fn := fun _ => fun
  | [d1, d2] => { results := [.lit (.bool true)], args := [d1, d2] }
  | _ => none }
def wireReadsRow : OpenClaim := { program := "ytgijcafgnonjjaa", sum := "56bc8914dc6b2fbab3bfaaf0287a008fe2bfbf3547fee8f349518567bd8c49a2", func := "imprimatur/imprimaturlaw03.WireReads", spec := "wireReads", unfollowed := true, recurses := true, apart := false }
def WireReadsSaid : Prop := wireReadsRow.holds Try.pinned (OpenSpec.ofChange wireReadsSpec)

/-- ITS FALSE NEIGHBOUR: 'it returns false'. Refute it at one input. -/
def wireReadsWrong : ChangeSpec := { name := "wireReads", fn := fun _ => fun
  | [d1, d2] => { results := [.lit (.bool false)], args := [d1, d2] }
  | _ => none }
def WireReadsWrongFalsely : Prop := wireReadsRow.holds Try.pinned (OpenSpec.ofChange wireReadsWrong)

/-- 'imprimaturlaw03.WireBack': WHATEVER THE INPUT: true; the input reads as it did. -/
def wireBackSpec : ChangeSpec := { name := "wireBack", fn := fun _ => fun
  | [d1, d2, d3] => { results := [.lit (.bool true)], args := [d1, d2, d3] }
  | _ => none }
def wireBackRow : OpenClaim := { program := "ytgijcafgnonjjaa", sum := "56bc8914dc6b2fbab3bfaaf0287a008fe2bfbf3547fee8f349518567bd8c49a2", func := "imprimatur/imprimaturlaw03.WireBack", spec := "wireBack", unfollowed := true, recurses := true, loops := true, apart := false }
def WireBackSaid : Prop := wireBackRow.holds Try.pinned (OpenSpec.ofChange wireBackSpec)

/-- ITS FALSE NEIGHBOUR: 'it returns false'. Refute it at one input. -/
def wireBackWrong : ChangeSpec := { name := "wireBack", fn := fun _ => fun
  | [d1, d2, d3] => { results := [.lit (.bool false)], args := [d1, d2, d3] }
  | _ => none }
def WireBackWrongFalsely : Prop := wireBackRow.holds Try.pinned (OpenSpec.ofChange wireBackWrong)

/-- 'imprimaturlaw03.WireCut': WHATEVER THE INPUT: true; the input reads as it did. -/
def wireCutSpec : ChangeSpec := { name := "wireCut", fn := fun _ => fun
  | [d1, d2] => { results := [.lit (.bool true)], args := [d1, d2] }
  | _ => none }
def wireCutRow : OpenClaim := { program := "ytgijcafgnonjjaa", sum := "56bc8914dc6b2fbab3bfaaf0287a008fe2bfbf3547fee8f349518567bd8c49a2", func := "imprimatur/imprimaturlaw03.WireCut", spec := "wireCut", unfollowed := true, recurses := true, loops := true, apart := false }
def WireCutSaid : Prop := wireCutRow.holds Try.pinned (OpenSpec.ofChange wireCutSpec)

/-- ITS FALSE NEIGHBOUR: 'it returns false'. Refute it at one input. -/
def wireCutWrong : ChangeSpec := { name := "wireCut", fn := fun _ => fun
  | [d1, d2] => { results := [.lit (.bool false)], args := [d1, d2] }
  | _ => none }
def WireCutWrongFalsely : Prop := wireCutRow.holds Try.pinned (OpenSpec.ofChange wireCutWrong)

/-- 'imprimaturlaw03.WireMore': WHATEVER THE INPUT: true; the input reads as it did. -/
def wireMoreSpec : ChangeSpec := { name := "wireMore", fn := fun _ => fun
  | [d1, d2, d3, d4, d5, d6, d7] => { results := [.lit (.bool true)], args := [d1, d2, d3, d4, d5, d6, d7] }
  | _ => none }
def wireMoreRow : OpenClaim := { program := "ytgijcafgnonjjaa", sum := "56bc8914dc6b2fbab3bfaaf0287a008fe2bfbf3547fee8f349518567bd8c49a2", func := "imprimatur/imprimaturlaw03.WireMore", spec := "wireMore", unfollowed := true, recurses := true, loops := true, apart := false }
def WireMoreSaid : Prop := wireMoreRow.holds Try.pinned (OpenSpec.ofChange wireMoreSpec)

/-- ITS FALSE NEIGHBOUR: 'it returns false'. Refute it at one input. -/
def wireMoreWrong : ChangeSpec := { name := "wireMore", fn := fun _ => fun
  | [d1, d2, d3, d4, d5, d6, d7] => { results := [.lit (.bool false)], args := [d1, d2, d3, d4, d5, d6, d7] }
  | _ => none }
def WireMoreWrongFalsely : Prop := wireMoreRow.holds Try.pinned (OpenSpec.ofChange wireMoreWrong)

/-- 'imprimaturlaw03.WireWithin': WHATEVER THE INPUT: true; the input reads as it did. -/
def wireWithinSpec : ChangeSpec := { name := "wireWithin", fn := fun _ => fun
  | [d1, d2] => { results := [.lit (.bool true)], args := [d1, d2] }
  | _ => none }
def wireWithinRow : OpenClaim := { program := "ytgijcafgnonjjaa", sum := "56bc8914dc6b2fbab3bfaaf0287a008fe2bfbf3547fee8f349518567bd8c49a2", func := "imprimatur/imprimaturlaw03.WireWithin", spec := "wireWithin", unfollowed := true, recurses := true, apart := false }
def WireWithinSaid : Prop := wireWithinRow.holds Try.pinned (OpenSpec.ofChange wireWithinSpec)

/-- ITS FALSE NEIGHBOUR: 'it returns false'. Refute it at one input. -/
def wireWithinWrong : ChangeSpec := { name := "wireWithin", fn := fun _ => fun
  | [d1, d2] => { results := [.lit (.bool false)], args := [d1, d2] }
  | _ => none }
def WireWithinWrongFalsely : Prop := wireWithinRow.holds Try.pinned (OpenSpec.ofChange wireWithinWrong)

/-- 'imprimaturlaw03.WireCounts': WHATEVER THE INPUT: true; the input reads as it did. -/
def wireCountsSpec : ChangeSpec := { name := "wireCounts", fn := fun _ => fun
  | [d1, d2, d3] => { results := [.lit (.bool true)], args := [d1, d2, d3] }
  | _ => none }
def wireCountsRow : OpenClaim := { program := "ytgijcafgnonjjaa", sum := "56bc8914dc6b2fbab3bfaaf0287a008fe2bfbf3547fee8f349518567bd8c49a2", func := "imprimatur/imprimaturlaw03.WireCounts", spec := "wireCounts", unfollowed := true, recurses := true, apart := false }
def WireCountsSaid : Prop := wireCountsRow.holds Try.pinned (OpenSpec.ofChange wireCountsSpec)

/-- ITS FALSE NEIGHBOUR: 'it returns false'. Refute it at one input. -/
def wireCountsWrong : ChangeSpec := { name := "wireCounts", fn := fun _ => fun
  | [d1, d2, d3] => { results := [.lit (.bool false)], args := [d1, d2, d3] }
  | _ => none }
def WireCountsWrongFalsely : Prop := wireCountsRow.holds Try.pinned (OpenSpec.ofChange wireCountsWrong)

/-- 'imprimaturlaw03.WireMakes': WHATEVER THE INPUT: true; the input reads as it did. -/
def wireMakesSpec : ChangeSpec := { name := "wireMakes", fn := fun _ => fun
  | [d1, d2, d3, d4, d5, d6] => { results := [.lit (.bool true)], args := [d1, d2, d3, d4, d5, d6] }
  | _ => none }
def wireMakesRow : OpenClaim := { program := "ytgijcafgnonjjaa", sum := "56bc8914dc6b2fbab3bfaaf0287a008fe2bfbf3547fee8f349518567bd8c49a2", func := "imprimatur/imprimaturlaw03.WireMakes", spec := "wireMakes", inPlace := ["math.Float64bits"], unfollowed := true, recurses := true, loops := true, apart := false }
def WireMakesSaid : Prop := wireMakesRow.holds Try.pinned (OpenSpec.ofChange wireMakesSpec)

/-- ITS FALSE NEIGHBOUR: 'it returns false'. Refute it at one input. -/
def wireMakesWrong : ChangeSpec := { name := "wireMakes", fn := fun _ => fun
  | [d1, d2, d3, d4, d5, d6] => { results := [.lit (.bool false)], args := [d1, d2, d3, d4, d5, d6] }
  | _ => none }
def WireMakesWrongFalsely : Prop := wireMakesRow.holds Try.pinned (OpenSpec.ofChange wireMakesWrong)

/-- 'imprimaturlaw03.WireFields': WHATEVER THE INPUT: true; the input reads as it did. -/
def wireFieldsSpec : ChangeSpec := { name := "wireFields", fn := fun _ => fun
  | [d1, d2] => { results := [.lit (.bool true)], args := [d1, d2] }
  | _ => none }
def wireFieldsRow : OpenClaim := { program := "ytgijcafgnonjjaa", sum := "56bc8914dc6b2fbab3bfaaf0287a008fe2bfbf3547fee8f349518567bd8c49a2", func := "imprimatur/imprimaturlaw03.WireFields", spec := "wireFields", inPlace := ["math.Float64frombits", "math.Float64bits"], unfollowed := true, recurses := true, loops := true, apart := false }
def WireFieldsSaid : Prop := wireFieldsRow.holds Try.pinned (OpenSpec.ofChange wireFieldsSpec)

/-- ITS FALSE NEIGHBOUR: 'it returns false'. Refute it at one input. -/
def wireFieldsWrong : ChangeSpec := { name := "wireFields", fn := fun _ => fun
  | [d1, d2] => { results := [.lit (.bool false)], args := [d1, d2] }
  | _ => none }
def WireFieldsWrongFalsely : Prop := wireFieldsRow.holds Try.pinned (OpenSpec.ofChange wireFieldsWrong)

/-- 'imprimaturlaw03.WireNil': WHATEVER THE INPUT: true; the input reads as it did. -/
def wireNilSpec : ChangeSpec := { name := "wireNil", fn := fun _ => fun
  | [d1, d2, d3] => { results := [.lit (.bool true)], args := [d1, d2, d3] }
  | _ => none }
def wireNilRow : OpenClaim := { program := "ytgijcafgnonjjaa", sum := "56bc8914dc6b2fbab3bfaaf0287a008fe2bfbf3547fee8f349518567bd8c49a2", func := "imprimatur/imprimaturlaw03.WireNil", spec := "wireNil", inPlace := ["math.Float64frombits", "math.Float64bits"], unfollowed := true, recurses := true, loops := true, apart := false }
def WireNilSaid : Prop := wireNilRow.holds Try.pinned (OpenSpec.ofChange wireNilSpec)

/-- ITS FALSE NEIGHBOUR: 'it returns false'. Refute it at one input. -/
def wireNilWrong : ChangeSpec := { name := "wireNil", fn := fun _ => fun
  | [d1, d2, d3] => { results := [.lit (.bool false)], args := [d1, d2, d3] }
  | _ => none }
def WireNilWrongFalsely : Prop := wireNilRow.holds Try.pinned (OpenSpec.ofChange wireNilWrong)

/- THE SECOND FORM. 'bulk': how many values and letters a reading holds, each counted each time it is reached (what is shared counts as often as it is met; a slice's spare places count too). A statement '..UptoSaid' is the law's where the arguments, and the package variables that the reading takes, are together of bulk at most 1048576: NARROWER than '..Said'. Prove '..Said' where nothing that the law and all that it calls make is longer than what came in: it says more and counts as full. Else prove '..UptoSaid'. A law counts once. -/
mutual
def uptoBulk {H : Type} : DataW H → Nat
  | .lit (.string bytes) => bytes.length + 1
  | .lit _ => 1
  | .nil => 1
  | .ptr d => uptoBulk d + 1
  | .slice elems spare => uptoBulkAll elems + uptoBulkAll spare + 1
  | .agg parts => uptoBulkAll parts + 1
  | .iface _ d => uptoBulk d + 1
  | .map entries => uptoBulkEntries entries + 1
  | .held _ => 1
def uptoBulkAll {H : Type} : List (DataW H) → Nat
  | [] => 0
  | d :: r => uptoBulk d + uptoBulkAll r
def uptoBulkEntries {H : Type} : List (Lit × DataW H) → Nat
  | [] => 0
  | x :: r => uptoBulkEntry x + uptoBulkEntries r
def uptoBulkEntry {H : Type} : Lit × DataW H → Nat
  | (.string bytes, d) => bytes.length + uptoBulk d + 1
  | (_, d) => uptoBulk d + 1
 end
def uptoSmall : (H : Type) → List (DataW H) → Bool := fun _ ds => decide (uptoBulkAll ds ≤ 1048576)
def OpenSpec.upto (s : _root_.Go.ChangeSpec) : _root_.Go.OpenSpec := { _root_.Go.OpenSpec.ofChange s with cond := some uptoSmall }

/-- 'imprimaturlaw03.WireWrites', WHERE WHAT IT READS IS OF BULK AT MOST 1048576: true; the input reads as it did. -/
def wireWritesUptoRow : OpenClaim := { program := "ytgijcafgnonjjaa", sum := "56bc8914dc6b2fbab3bfaaf0287a008fe2bfbf3547fee8f349518567bd8c49a2", func := "imprimatur/imprimaturlaw03.WireWrites", spec := "wireWrites", unfollowed := true, recurses := true, loops := true, apart := false, narrowed := true }
def WireWritesUptoSaid : Prop := wireWritesUptoRow.holds Try.pinned (OpenSpec.upto wireWritesSpec)

/-- 'imprimaturlaw03.WireReads', WHERE WHAT IT READS IS OF BULK AT MOST 1048576: true; the input reads as it did. -/
def wireReadsUptoRow : OpenClaim := { program := "ytgijcafgnonjjaa", sum := "56bc8914dc6b2fbab3bfaaf0287a008fe2bfbf3547fee8f349518567bd8c49a2", func := "imprimatur/imprimaturlaw03.WireReads", spec := "wireReads", unfollowed := true, recurses := true, apart := false, narrowed := true }
def WireReadsUptoSaid : Prop := wireReadsUptoRow.holds Try.pinned (OpenSpec.upto wireReadsSpec)

/-- 'imprimaturlaw03.WireBack', WHERE WHAT IT READS IS OF BULK AT MOST 1048576: true; the input reads as it did. -/
def wireBackUptoRow : OpenClaim := { program := "ytgijcafgnonjjaa", sum := "56bc8914dc6b2fbab3bfaaf0287a008fe2bfbf3547fee8f349518567bd8c49a2", func := "imprimatur/imprimaturlaw03.WireBack", spec := "wireBack", unfollowed := true, recurses := true, loops := true, apart := false, narrowed := true }
def WireBackUptoSaid : Prop := wireBackUptoRow.holds Try.pinned (OpenSpec.upto wireBackSpec)

/-- 'imprimaturlaw03.WireCut', WHERE WHAT IT READS IS OF BULK AT MOST 1048576: true; the input reads as it did. -/
def wireCutUptoRow : OpenClaim := { program := "ytgijcafgnonjjaa", sum := "56bc8914dc6b2fbab3bfaaf0287a008fe2bfbf3547fee8f349518567bd8c49a2", func := "imprimatur/imprimaturlaw03.WireCut", spec := "wireCut", unfollowed := true, recurses := true, loops := true, apart := false, narrowed := true }
def WireCutUptoSaid : Prop := wireCutUptoRow.holds Try.pinned (OpenSpec.upto wireCutSpec)

/-- 'imprimaturlaw03.WireMore', WHERE WHAT IT READS IS OF BULK AT MOST 1048576: true; the input reads as it did. -/
def wireMoreUptoRow : OpenClaim := { program := "ytgijcafgnonjjaa", sum := "56bc8914dc6b2fbab3bfaaf0287a008fe2bfbf3547fee8f349518567bd8c49a2", func := "imprimatur/imprimaturlaw03.WireMore", spec := "wireMore", unfollowed := true, recurses := true, loops := true, apart := false, narrowed := true }
def WireMoreUptoSaid : Prop := wireMoreUptoRow.holds Try.pinned (OpenSpec.upto wireMoreSpec)

/-- 'imprimaturlaw03.WireWithin', WHERE WHAT IT READS IS OF BULK AT MOST 1048576: true; the input reads as it did. -/
def wireWithinUptoRow : OpenClaim := { program := "ytgijcafgnonjjaa", sum := "56bc8914dc6b2fbab3bfaaf0287a008fe2bfbf3547fee8f349518567bd8c49a2", func := "imprimatur/imprimaturlaw03.WireWithin", spec := "wireWithin", unfollowed := true, recurses := true, apart := false, narrowed := true }
def WireWithinUptoSaid : Prop := wireWithinUptoRow.holds Try.pinned (OpenSpec.upto wireWithinSpec)

/-- 'imprimaturlaw03.WireCounts', WHERE WHAT IT READS IS OF BULK AT MOST 1048576: true; the input reads as it did. -/
def wireCountsUptoRow : OpenClaim := { program := "ytgijcafgnonjjaa", sum := "56bc8914dc6b2fbab3bfaaf0287a008fe2bfbf3547fee8f349518567bd8c49a2", func := "imprimatur/imprimaturlaw03.WireCounts", spec := "wireCounts", unfollowed := true, recurses := true, apart := false, narrowed := true }
def WireCountsUptoSaid : Prop := wireCountsUptoRow.holds Try.pinned (OpenSpec.upto wireCountsSpec)

/-- 'imprimaturlaw03.WireMakes', WHERE WHAT IT READS IS OF BULK AT MOST 1048576: true; the input reads as it did. -/
def wireMakesUptoRow : OpenClaim := { program := "ytgijcafgnonjjaa", sum := "56bc8914dc6b2fbab3bfaaf0287a008fe2bfbf3547fee8f349518567bd8c49a2", func := "imprimatur/imprimaturlaw03.WireMakes", spec := "wireMakes", inPlace := ["math.Float64bits"], unfollowed := true, recurses := true, loops := true, apart := false, narrowed := true }
def WireMakesUptoSaid : Prop := wireMakesUptoRow.holds Try.pinned (OpenSpec.upto wireMakesSpec)

/-- 'imprimaturlaw03.WireFields', WHERE WHAT IT READS IS OF BULK AT MOST 1048576: true; the input reads as it did. -/
def wireFieldsUptoRow : OpenClaim := { program := "ytgijcafgnonjjaa", sum := "56bc8914dc6b2fbab3bfaaf0287a008fe2bfbf3547fee8f349518567bd8c49a2", func := "imprimatur/imprimaturlaw03.WireFields", spec := "wireFields", inPlace := ["math.Float64frombits", "math.Float64bits"], unfollowed := true, recurses := true, loops := true, apart := false, narrowed := true }
def WireFieldsUptoSaid : Prop := wireFieldsUptoRow.holds Try.pinned (OpenSpec.upto wireFieldsSpec)

/-- 'imprimaturlaw03.WireNil', WHERE WHAT IT READS IS OF BULK AT MOST 1048576: true; the input reads as it did. -/
def wireNilUptoRow : OpenClaim := { program := "ytgijcafgnonjjaa", sum := "56bc8914dc6b2fbab3bfaaf0287a008fe2bfbf3547fee8f349518567bd8c49a2", func := "imprimatur/imprimaturlaw03.WireNil", spec := "wireNil", inPlace := ["math.Float64frombits", "math.Float64bits"], unfollowed := true, recurses := true, loops := true, apart := false, narrowed := true }
def WireNilUptoSaid : Prop := wireNilUptoRow.holds Try.pinned (OpenSpec.upto wireNilSpec)

end Rows
end Go.Proofs.Ytgijcafgnonjjaa
