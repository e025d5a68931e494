/-
  No cell of these rows narrows 'for every input' (looked for: loops, veiled, ifaces, maps, wideKeys, modest, calm, conditions, laid).
  DERIVED. THE GIVEN ROWS OF THIS SEAT. 11 by the template 'for every input the law returns true; each argument reads behind the call as it read before'; 0 by the template 'total and deterministic' (their statements: YtokadjfakncdfaaTotals.lean).
  GIVEN WITH THE SEED: the statements are not yours to turn. If you find one false, say at which input.
  Laid BY PROGRAM, IN A SANDBOX (cutbox-rows.mjs): the forced cells as the released guide's own fill.sh prints them over the translation 7a4cce1cabfbea28… (all of the seat's roots in one cut). By AI agents, Wed Nov 11 2026. No macro, syntax, notation, axiom, sorry.
-/
import Derived.Test.YtokadjfakncdfaaChecked
import GoSem.Claim
import GoSem.ClaimJoined
import GoSem.ClaimMapViews
import Derived.JoinedTies
import Derived.KernelRfl
namespace Go.Proofs.Ytokadjfakncdfaa
/- THE CELL 'sum', in the pinned program and in every row, IS THE sha256 OF THE DUMP (.gsa) THAT YtokadjfakncdfaaProg.lean LOADS. Nothing in Lean hashes anything: it is a label: what it is worth is what the hold of that sum in a sandbox is worth. -/
noncomputable def Try.pinned : Pinned := { name := "ytokadjfakncdfaa", sum := "7a4cce1cabfbea283c944595bc79e001d410370e97a65abe1a9df61dbedeb23b", checked := Try.checked }
namespace Rows
def none {H : Type} : Left H := { results := [], args := [] }

/-- 'marlinspikelaw15.BlakeTells': WHATEVER THE INPUT: true; the input reads as it did. -/
def blakeTellsSpec : ChangeSpec := { name := "blakeTells", fn := fun _ => fun
  | [d] => { results := [.lit (.bool true)], args := [d] }
  | _ => none }
def blakeTellsRow : OpenClaim := { program := "ytokadjfakncdfaa", sum := "7a4cce1cabfbea283c944595bc79e001d410370e97a65abe1a9df61dbedeb23b", func := "marlinspike/marlinspikelaw15.BlakeTells", spec := "blakeTells", unfollowed := true, recurses := true, apart := false }
def BlakeTellsSaid : Prop := blakeTellsRow.holds Try.pinned (OpenSpec.ofChange blakeTellsSpec)

/-- ITS FALSE NEIGHBOUR: 'it returns false'. Refute it at one input. -/
def blakeTellsWrong : ChangeSpec := { name := "blakeTells", fn := fun _ => fun
  | [d] => { results := [.lit (.bool false)], args := [d] }
  | _ => none }
def BlakeTellsWrongFalsely : Prop := blakeTellsRow.holds Try.pinned (OpenSpec.ofChange blakeTellsWrong)

/-- 'marlinspikelaw15.BlakeParts': WHATEVER THE INPUT: true; the input reads as it did. -/
def blakePartsSpec : ChangeSpec := { name := "blakeParts", fn := fun _ => fun
  | [d] => { results := [.lit (.bool true)], args := [d] }
  | _ => none }
def blakePartsRow : OpenClaim := { program := "ytokadjfakncdfaa", sum := "7a4cce1cabfbea283c944595bc79e001d410370e97a65abe1a9df61dbedeb23b", func := "marlinspike/marlinspikelaw15.BlakeParts", spec := "blakeParts", unfollowed := true, recurses := true, apart := false }
def BlakePartsSaid : Prop := blakePartsRow.holds Try.pinned (OpenSpec.ofChange blakePartsSpec)

/-- ITS FALSE NEIGHBOUR: 'it returns false'. Refute it at one input. -/
def blakePartsWrong : ChangeSpec := { name := "blakeParts", fn := fun _ => fun
  | [d] => { results := [.lit (.bool false)], args := [d] }
  | _ => none }
def BlakePartsWrongFalsely : Prop := blakePartsRow.holds Try.pinned (OpenSpec.ofChange blakePartsWrong)

/-- 'marlinspikelaw15.BlakeKnown': WHATEVER THE INPUT: true; the input reads as it did. -/
def blakeKnownSpec : ChangeSpec := { name := "blakeKnown", fn := fun _ => fun
  | [] => { results := [.lit (.bool true)], args := [] }
  | _ => none }
def blakeKnownRow : OpenClaim := { program := "ytokadjfakncdfaa", sum := "7a4cce1cabfbea283c944595bc79e001d410370e97a65abe1a9df61dbedeb23b", func := "marlinspike/marlinspikelaw15.BlakeKnown", spec := "blakeKnown", unfollowed := true, recurses := true, apart := false }
def BlakeKnownSaid : Prop := blakeKnownRow.holds Try.pinned (OpenSpec.ofChange blakeKnownSpec)

/-- ITS FALSE NEIGHBOUR: 'it returns false'. Refute it at one input. -/
def blakeKnownWrong : ChangeSpec := { name := "blakeKnown", fn := fun _ => fun
  | [] => { results := [.lit (.bool false)], args := [] }
  | _ => none }
def BlakeKnownWrongFalsely : Prop := blakeKnownRow.holds Try.pinned (OpenSpec.ofChange blakeKnownWrong)

/-- 'marlinspikelaw01.NatRing': WHATEVER THE INPUT: true; the input reads as it did. -/
def natRingSpec : ChangeSpec := { name := "natRing", fn := fun _ => fun
  | [d1, d2, d3] => { results := [.lit (.bool true)], args := [d1, d2, d3] }
  | _ => none }
def natRingRow : OpenClaim := { program := "ytokadjfakncdfaa", sum := "7a4cce1cabfbea283c944595bc79e001d410370e97a65abe1a9df61dbedeb23b", func := "marlinspike/marlinspikelaw01.NatRing", spec := "natRing", inPlace := ["math/bits.Add64", "math/bits.Sub64"], unfollowed := true, recurses := true, apart := false }
def NatRingSaid : Prop := natRingRow.holds Try.pinned (OpenSpec.ofChange natRingSpec)

/-- ITS FALSE NEIGHBOUR: 'it returns false'. Refute it at one input. -/
def natRingWrong : ChangeSpec := { name := "natRing", fn := fun _ => fun
  | [d1, d2, d3] => { results := [.lit (.bool false)], args := [d1, d2, d3] }
  | _ => none }
def NatRingWrongFalsely : Prop := natRingRow.holds Try.pinned (OpenSpec.ofChange natRingWrong)

/-- 'marlinspikelaw01.NatDivides': WHATEVER THE INPUT: true; the input reads as it did. -/
def natDividesSpec : ChangeSpec := { name := "natDivides", fn := fun _ => fun
  | [d1, d2] => { results := [.lit (.bool true)], args := [d1, d2] }
  | _ => none }
def natDividesRow : OpenClaim := { program := "ytokadjfakncdfaa", sum := "7a4cce1cabfbea283c944595bc79e001d410370e97a65abe1a9df61dbedeb23b", func := "marlinspike/marlinspikelaw01.NatDivides", spec := "natDivides", inPlace := ["math/bits.Add64", "math/bits.Sub64"], unfollowed := true, recurses := true, apart := false }
def NatDividesSaid : Prop := natDividesRow.holds Try.pinned (OpenSpec.ofChange natDividesSpec)

/-- ITS FALSE NEIGHBOUR: 'it returns false'. Refute it at one input. -/
def natDividesWrong : ChangeSpec := { name := "natDivides", fn := fun _ => fun
  | [d1, d2] => { results := [.lit (.bool false)], args := [d1, d2] }
  | _ => none }
def NatDividesWrongFalsely : Prop := natDividesRow.holds Try.pinned (OpenSpec.ofChange natDividesWrong)

/-- 'marlinspikelaw01.NatOrder': WHATEVER THE INPUT: true; the input reads as it did. -/
def natOrderSpec : ChangeSpec := { name := "natOrder", fn := fun _ => fun
  | [d1, d2, d3] => { results := [.lit (.bool true)], args := [d1, d2, d3] }
  | _ => none }
def natOrderRow : OpenClaim := { program := "ytokadjfakncdfaa", sum := "7a4cce1cabfbea283c944595bc79e001d410370e97a65abe1a9df61dbedeb23b", func := "marlinspike/marlinspikelaw01.NatOrder", spec := "natOrder", inPlace := ["math/bits.Add64", "math/bits.Sub64"], unfollowed := true, recurses := true, apart := false }
def NatOrderSaid : Prop := natOrderRow.holds Try.pinned (OpenSpec.ofChange natOrderSpec)

/-- ITS FALSE NEIGHBOUR: 'it returns false'. Refute it at one input. -/
def natOrderWrong : ChangeSpec := { name := "natOrder", fn := fun _ => fun
  | [d1, d2, d3] => { results := [.lit (.bool false)], args := [d1, d2, d3] }
  | _ => none }
def NatOrderWrongFalsely : Prop := natOrderRow.holds Try.pinned (OpenSpec.ofChange natOrderWrong)

/-- 'marlinspikelaw01.NatTells': WHATEVER THE INPUT: true; the input reads as it did. -/
def natTellsSpec : ChangeSpec := { name := "natTells", fn := fun _ => fun
  | [d1, d2, d3, d4, d5] => { results := [.lit (.bool true)], args := [d1, d2, d3, d4, d5] }
  | _ => none }
def natTellsRow : OpenClaim := { program := "ytokadjfakncdfaa", sum := "7a4cce1cabfbea283c944595bc79e001d410370e97a65abe1a9df61dbedeb23b", func := "marlinspike/marlinspikelaw01.NatTells", spec := "natTells", inPlace := ["math/bits.Add64", "math/bits.Sub64"], unfollowed := true, recurses := true, apart := false }
def NatTellsSaid : Prop := natTellsRow.holds Try.pinned (OpenSpec.ofChange natTellsSpec)

/-- ITS FALSE NEIGHBOUR: 'it returns false'. Refute it at one input. -/
def natTellsWrong : ChangeSpec := { name := "natTells", fn := fun _ => fun
  | [d1, d2, d3, d4, d5] => { results := [.lit (.bool false)], args := [d1, d2, d3, d4, d5] }
  | _ => none }
def NatTellsWrongFalsely : Prop := natTellsRow.holds Try.pinned (OpenSpec.ofChange natTellsWrong)

/-- 'marlinspikelaw01.NatBytes': WHATEVER THE INPUT: true; the input reads as it did. -/
def natBytesSpec : ChangeSpec := { name := "natBytes", fn := fun _ => fun
  | [d1, d2] => { results := [.lit (.bool true)], args := [d1, d2] }
  | _ => none }
def natBytesRow : OpenClaim := { program := "ytokadjfakncdfaa", sum := "7a4cce1cabfbea283c944595bc79e001d410370e97a65abe1a9df61dbedeb23b", func := "marlinspike/marlinspikelaw01.NatBytes", spec := "natBytes", inPlace := ["math/bits.Add64", "math/bits.Sub64"], unfollowed := true, recurses := true, apart := false }
def NatBytesSaid : Prop := natBytesRow.holds Try.pinned (OpenSpec.ofChange natBytesSpec)

/-- ITS FALSE NEIGHBOUR: 'it returns false'. Refute it at one input. -/
def natBytesWrong : ChangeSpec := { name := "natBytes", fn := fun _ => fun
  | [d1, d2] => { results := [.lit (.bool false)], args := [d1, d2] }
  | _ => none }
def NatBytesWrongFalsely : Prop := natBytesRow.holds Try.pinned (OpenSpec.ofChange natBytesWrong)

/-- 'marlinspikelaw02.FieldRing': WHATEVER THE INPUT: true; the input reads as it did. -/
def fieldRingSpec : ChangeSpec := { name := "fieldRing", fn := fun _ => fun
  | [d1, d2, d3, d4, d5] => { results := [.lit (.bool true)], args := [d1, d2, d3, d4, d5] }
  | _ => none }
def fieldRingRow : OpenClaim := { program := "ytokadjfakncdfaa", sum := "7a4cce1cabfbea283c944595bc79e001d410370e97a65abe1a9df61dbedeb23b", func := "marlinspike/marlinspikelaw02.FieldRing", spec := "fieldRing", inPlace := ["math/bits.Add64", "math/bits.Sub64"], unfollowed := true, recurses := true, apart := false }
def FieldRingSaid : Prop := fieldRingRow.holds Try.pinned (OpenSpec.ofChange fieldRingSpec)

/-- ITS FALSE NEIGHBOUR: 'it returns false'. Refute it at one input. -/
def fieldRingWrong : ChangeSpec := { name := "fieldRing", fn := fun _ => fun
  | [d1, d2, d3, d4, d5] => { results := [.lit (.bool false)], args := [d1, d2, d3, d4, d5] }
  | _ => none }
def FieldRingWrongFalsely : Prop := fieldRingRow.holds Try.pinned (OpenSpec.ofChange fieldRingWrong)

/-- 'marlinspikelaw02.FieldTells': WHATEVER THE INPUT: true; the input reads as it did. -/
def fieldTellsSpec : ChangeSpec := { name := "fieldTells", fn := fun _ => fun
  | [d1, d2, d3, d4, d5] => { results := [.lit (.bool true)], args := [d1, d2, d3, d4, d5] }
  | _ => none }
def fieldTellsRow : OpenClaim := { program := "ytokadjfakncdfaa", sum := "7a4cce1cabfbea283c944595bc79e001d410370e97a65abe1a9df61dbedeb23b", func := "marlinspike/marlinspikelaw02.FieldTells", spec := "fieldTells", inPlace := ["math/bits.Add64", "math/bits.Sub64"], unfollowed := true, recurses := true, apart := false }
def FieldTellsSaid : Prop := fieldTellsRow.holds Try.pinned (OpenSpec.ofChange fieldTellsSpec)

/-- ITS FALSE NEIGHBOUR: 'it returns false'. Refute it at one input. -/
def fieldTellsWrong : ChangeSpec := { name := "fieldTells", fn := fun _ => fun
  | [d1, d2, d3, d4, d5] => { results := [.lit (.bool false)], args := [d1, d2, d3, d4, d5] }
  | _ => none }
def FieldTellsWrongFalsely : Prop := fieldTellsRow.holds Try.pinned (OpenSpec.ofChange fieldTellsWrong)

/-- 'marlinspikelaw02.FieldPowers': WHATEVER THE INPUT: true; the input reads as it did. -/
def fieldPowersSpec : ChangeSpec := { name := "fieldPowers", fn := fun _ => fun
  | [d1, d2, d3, d4] => { results := [.lit (.bool true)], args := [d1, d2, d3, d4] }
  | _ => none }
def fieldPowersRow : OpenClaim := { program := "ytokadjfakncdfaa", sum := "7a4cce1cabfbea283c944595bc79e001d410370e97a65abe1a9df61dbedeb23b", func := "marlinspike/marlinspikelaw02.FieldPowers", spec := "fieldPowers", inPlace := ["math/bits.Add64", "math/bits.Sub64"], unfollowed := true, recurses := true, apart := false }
def FieldPowersSaid : Prop := fieldPowersRow.holds Try.pinned (OpenSpec.ofChange fieldPowersSpec)

/-- ITS FALSE NEIGHBOUR: 'it returns false'. Refute it at one input. -/
def fieldPowersWrong : ChangeSpec := { name := "fieldPowers", fn := fun _ => fun
  | [d1, d2, d3, d4] => { results := [.lit (.bool false)], args := [d1, d2, d3, d4] }
  | _ => none }
def FieldPowersWrongFalsely : Prop := fieldPowersRow.holds Try.pinned (OpenSpec.ofChange fieldPowersWrong)

/- THE SECOND FORM. 'bulk': how many values and letters a reading holds, each counted each time it is reached (what is shared counts as often as it is met; a slice's spare places count too). A statement '..UptoSaid' is the law's where the arguments, and the package variables that the reading takes, are together of bulk at most 1048576: NARROWER than '..Said'. Prove '..Said' where nothing that the law and all that it calls make is longer than what came in: it says more and counts as full. Else prove '..UptoSaid'. A law counts once. -/
mutual
def uptoBulk {H : Type} : DataW H → Nat
  | .lit (.string bytes) => bytes.length + 1
  | .lit _ => 1
  | .nil => 1
  | .ptr d => uptoBulk d + 1
  | .slice elems spare => uptoBulkAll elems + uptoBulkAll spare + 1
  | .agg parts => uptoBulkAll parts + 1
  | .iface _ d => uptoBulk d + 1
  | .map entries => uptoBulkEntries entries + 1
  | .held _ => 1
def uptoBulkAll {H : Type} : List (DataW H) → Nat
  | [] => 0
  | d :: r => uptoBulk d + uptoBulkAll r
def uptoBulkEntries {H : Type} : List (Lit × DataW H) → Nat
  | [] => 0
  | x :: r => uptoBulkEntry x + uptoBulkEntries r
def uptoBulkEntry {H : Type} : Lit × DataW H → Nat
  | (.string bytes, d) => bytes.length + uptoBulk d + 1
  | (_, d) => uptoBulk d + 1
 end
def uptoSmall : (H : Type) → List (DataW H) → Bool := fun _ ds => decide (uptoBulkAll ds ≤ 1048576)
def OpenSpec.upto (s : _root_.Go.ChangeSpec) : _root_.Go.OpenSpec := { _root_.Go.OpenSpec.ofChange s with cond := some uptoSmall }

/-- 'marlinspikelaw15.BlakeTells', WHERE WHAT IT READS IS OF BULK AT MOST 1048576: true; the input reads as it did. -/
def blakeTellsUptoRow : OpenClaim := { program := "ytokadjfakncdfaa", sum := "7a4cce1cabfbea283c944595bc79e001d410370e97a65abe1a9df61dbedeb23b", func := "marlinspike/marlinspikelaw15.BlakeTells", spec := "blakeTells", unfollowed := true, recurses := true, apart := false, narrowed := true }
def BlakeTellsUptoSaid : Prop := blakeTellsUptoRow.holds Try.pinned (OpenSpec.upto blakeTellsSpec)

/-- 'marlinspikelaw15.BlakeParts', WHERE WHAT IT READS IS OF BULK AT MOST 1048576: true; the input reads as it did. -/
def blakePartsUptoRow : OpenClaim := { program := "ytokadjfakncdfaa", sum := "7a4cce1cabfbea283c944595bc79e001d410370e97a65abe1a9df61dbedeb23b", func := "marlinspike/marlinspikelaw15.BlakeParts", spec := "blakeParts", unfollowed := true, recurses := true, apart := false, narrowed := true }
def BlakePartsUptoSaid : Prop := blakePartsUptoRow.holds Try.pinned (OpenSpec.upto blakePartsSpec)

/-- 'marlinspikelaw15.BlakeKnown', WHERE WHAT IT READS IS OF BULK AT MOST 1048576: true; the input reads as it did. -/
def blakeKnownUptoRow : OpenClaim := { program := "ytokadjfakncdfaa", sum := "7a4cce1cabfbea283c944595bc79e001d410370e97a65abe1a9df61dbedeb23b", func := "marlinspike/marlinspikelaw15.BlakeKnown", spec := "blakeKnown", unfollowed := true, recurses := true, apart := false, narrowed := true }
def BlakeKnownUptoSaid : Prop := blakeKnownUptoRow.holds Try.pinned (OpenSpec.upto blakeKnownSpec)

/-- 'marlinspikelaw01.NatRing', WHERE WHAT IT READS IS OF BULK AT MOST 1048576: true; the input reads as it did. -/
def natRingUptoRow : OpenClaim := { program := "ytokadjfakncdfaa", sum := "7a4cce1cabfbea283c944595bc79e001d410370e97a65abe1a9df61dbedeb23b", func := "marlinspike/marlinspikelaw01.NatRing", spec := "natRing", inPlace := ["math/bits.Add64", "math/bits.Sub64"], unfollowed := true, recurses := true, apart := false, narrowed := true }
def NatRingUptoSaid : Prop := natRingUptoRow.holds Try.pinned (OpenSpec.upto natRingSpec)

/-- 'marlinspikelaw01.NatDivides', WHERE WHAT IT READS IS OF BULK AT MOST 1048576: true; the input reads as it did. -/
def natDividesUptoRow : OpenClaim := { program := "ytokadjfakncdfaa", sum := "7a4cce1cabfbea283c944595bc79e001d410370e97a65abe1a9df61dbedeb23b", func := "marlinspike/marlinspikelaw01.NatDivides", spec := "natDivides", inPlace := ["math/bits.Add64", "math/bits.Sub64"], unfollowed := true, recurses := true, apart := false, narrowed := true }
def NatDividesUptoSaid : Prop := natDividesUptoRow.holds Try.pinned (OpenSpec.upto natDividesSpec)

/-- 'marlinspikelaw01.NatOrder', WHERE WHAT IT READS IS OF BULK AT MOST 1048576: true; the input reads as it did. -/
def natOrderUptoRow : OpenClaim := { program := "ytokadjfakncdfaa", sum := "7a4cce1cabfbea283c944595bc79e001d410370e97a65abe1a9df61dbedeb23b", func := "marlinspike/marlinspikelaw01.NatOrder", spec := "natOrder", inPlace := ["math/bits.Add64", "math/bits.Sub64"], unfollowed := true, recurses := true, apart := false, narrowed := true }
def NatOrderUptoSaid : Prop := natOrderUptoRow.holds Try.pinned (OpenSpec.upto natOrderSpec)

/-- 'marlinspikelaw01.NatTells', WHERE WHAT IT READS IS OF BULK AT MOST 1048576: true; the input reads as it did. -/
def natTellsUptoRow : OpenClaim := { program := "ytokadjfakncdfaa", sum := "7a4cce1cabfbea283c944595bc79e001d410370e97a65abe1a9df61dbedeb23b", func := "marlinspike/marlinspikelaw01.NatTells", spec := "natTells", inPlace := ["math/bits.Add64", "math/bits.Sub64"], unfollowed := true, recurses := true, apart := false, narrowed := true }
def NatTellsUptoSaid : Prop := natTellsUptoRow.holds Try.pinned (OpenSpec.upto natTellsSpec)

/-- 'marlinspikelaw01.NatBytes', WHERE WHAT IT READS IS OF BULK AT MOST 1048576: true; the input reads as it did. -/
def natBytesUptoRow : OpenClaim := { program := "ytokadjfakncdfaa", sum := "7a4cce1cabfbea283c944595bc79e001d410370e97a65abe1a9df61dbedeb23b", func := "marlinspike/marlinspikelaw01.NatBytes", spec := "natBytes", inPlace := ["math/bits.Add64", "math/bits.Sub64"], unfollowed := true, recurses := true, apart := false, narrowed := true }
def NatBytesUptoSaid : Prop := natBytesUptoRow.holds Try.pinned (OpenSpec.upto natBytesSpec)

/-- 'marlinspikelaw02.FieldRing', WHERE WHAT IT READS IS OF BULK AT MOST 1048576: true; the input reads as it did. -/
def fieldRingUptoRow : OpenClaim := { program := "ytokadjfakncdfaa", sum := "7a4cce1cabfbea283c944595bc79e001d410370e97a65abe1a9df61dbedeb23b", func := "marlinspike/marlinspikelaw02.FieldRing", spec := "fieldRing", inPlace := ["math/bits.Add64", "math/bits.Sub64"], unfollowed := true, recurses := true, apart := false, narrowed := true }
def FieldRingUptoSaid : Prop := fieldRingUptoRow.holds Try.pinned (OpenSpec.upto fieldRingSpec)

/-- 'marlinspikelaw02.FieldTells', WHERE WHAT IT READS IS OF BULK AT MOST 1048576: true; the input reads as it did. -/
def fieldTellsUptoRow : OpenClaim := { program := "ytokadjfakncdfaa", sum := "7a4cce1cabfbea283c944595bc79e001d410370e97a65abe1a9df61dbedeb23b", func := "marlinspike/marlinspikelaw02.FieldTells", spec := "fieldTells", inPlace := ["math/bits.Add64", "math/bits.Sub64"], unfollowed := true, recurses := true, apart := false, narrowed := true }
def FieldTellsUptoSaid : Prop := fieldTellsUptoRow.holds Try.pinned (OpenSpec.upto fieldTellsSpec)

/-- 'marlinspikelaw02.FieldPowers', WHERE WHAT IT READS IS OF BULK AT MOST 1048576: true; the input reads as it did. -/
def fieldPowersUptoRow : OpenClaim := { program := "ytokadjfakncdfaa", sum := "7a4cce1cabfbea283c944595bc79e001d410370e97a65abe1a9df61dbedeb23b", func := "marlinspike/marlinspikelaw02.FieldPowers", spec := "fieldPowers", inPlace := ["math/bits.Add64", "math/bits.Sub64"], unfollowed := true, recurses := true, apart := false, narrowed := true }
def FieldPowersUptoSaid : Prop := fieldPowersUptoRow.holds Try.pinned (OpenSpec.upto fieldPowersSpec)

end Rows
end Go.Proofs.Ytokadjfakncdfaa
