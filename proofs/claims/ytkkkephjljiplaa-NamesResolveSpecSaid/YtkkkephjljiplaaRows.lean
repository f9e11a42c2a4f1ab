/-
  No cell of these rows narrows 'for every input' (looked for: loops, veiled, ifaces, maps, wideKeys, modest, calm, conditions, laid).
  DERIVED. THE GIVEN ROWS OF THIS SEAT. 7 by the template 'for every input the law returns true; each argument reads behind the call as it read before'; 0 by the template 'total and deterministic' (their statements: YtkkkephjljiplaaTotals.lean).
  GIVEN WITH THE SEED: the statements are not yours to turn. If you find one false, say at which input.
  Laid BY PROGRAM, IN A SANDBOX (cutbox-rows.mjs): the forced cells as the released guide's own fill.sh prints them over the translation 3ed93b2d43053dee… (all of the seat's roots in one cut). By AI agents, Wed Nov 11 2026. No macro, syntax, notation, axiom, sorry.
-/
import Derived.Test.YtkkkephjljiplaaChecked
import GoSem.Claim
import GoSem.ClaimJoined
import GoSem.ClaimMapViews
import Derived.JoinedTies
import Derived.KernelRfl
namespace Go.Proofs.Ytkkkephjljiplaa
/- THE CELL 'sum', in the pinned program and in every row, IS THE sha256 OF THE DUMP (.gsa) THAT YtkkkephjljiplaaProg.lean LOADS. Nothing in Lean hashes anything: it is a label: what it is worth is what the hold of that sum in a sandbox is worth. -/
noncomputable def Try.pinned : Pinned := { name := "ytkkkephjljiplaa", sum := "3ed93b2d43053dee4fb315c403d02333b8d3a14026d47729a12259f6594e448a", checked := Try.checked }
namespace Rows
def none {H : Type} : Left H := { results := [], args := [] }

/-- 'testamurlaw11.NamesResolveSpec': WHATEVER THE INPUT: true; the input reads as it did. -/
def namesResolveSpecSpec : ChangeSpec := { name := "namesResolveSpec", fn := fun _ => fun
  | [d] => { results := [.lit (.bool true)], args := [d] }
  | _ => none }
def namesResolveSpecRow : OpenClaim := { program := "ytkkkephjljiplaa", sum := "3ed93b2d43053dee4fb315c403d02333b8d3a14026d47729a12259f6594e448a", func := "testamur/testamurlaw11.NamesResolveSpec", spec := "namesResolveSpec", unfollowed := true, recurses := true, apart := false }
def NamesResolveSpecSaid : Prop := namesResolveSpecRow.holds Try.pinned (OpenSpec.ofChange namesResolveSpecSpec)

/-- ITS FALSE NEIGHBOUR: 'it returns false'. Refute it at one input. -/
def namesResolveSpecWrong : ChangeSpec := { name := "namesResolveSpec", fn := fun _ => fun
  | [d] => { results := [.lit (.bool false)], args := [d] }
  | _ => none }
def NamesResolveSpecWrongFalsely : Prop := namesResolveSpecRow.holds Try.pinned (OpenSpec.ofChange namesResolveSpecWrong)

/-- 'testamurlaw11.NamesMeans': WHATEVER THE INPUT: true; the input reads as it did. -/
def namesMeansSpec : ChangeSpec := { name := "namesMeans", fn := fun _ => fun
  | [d] => { results := [.lit (.bool true)], args := [d] }
  | _ => none }
def namesMeansRow : OpenClaim := { program := "ytkkkephjljiplaa", sum := "3ed93b2d43053dee4fb315c403d02333b8d3a14026d47729a12259f6594e448a", func := "testamur/testamurlaw11.NamesMeans", spec := "namesMeans", unfollowed := true, recurses := true, apart := false }
def NamesMeansSaid : Prop := namesMeansRow.holds Try.pinned (OpenSpec.ofChange namesMeansSpec)

/-- ITS FALSE NEIGHBOUR: 'it returns false'. Refute it at one input. -/
def namesMeansWrong : ChangeSpec := { name := "namesMeans", fn := fun _ => fun
  | [d] => { results := [.lit (.bool false)], args := [d] }
  | _ => none }
def NamesMeansWrongFalsely : Prop := namesMeansRow.holds Try.pinned (OpenSpec.ofChange namesMeansWrong)

/-- 'testamurlaw11.NamesAgain': WHATEVER THE INPUT: true; the input reads as it did. -/
def namesAgainSpec : ChangeSpec := { name := "namesAgain", fn := fun _ => fun
  | [d] => { results := [.lit (.bool true)], args := [d] }
  | _ => none }
def namesAgainRow : OpenClaim := { program := "ytkkkephjljiplaa", sum := "3ed93b2d43053dee4fb315c403d02333b8d3a14026d47729a12259f6594e448a", func := "testamur/testamurlaw11.NamesAgain", spec := "namesAgain", unfollowed := true, recurses := true, apart := false }
def NamesAgainSaid : Prop := namesAgainRow.holds Try.pinned (OpenSpec.ofChange namesAgainSpec)

/-- ITS FALSE NEIGHBOUR: 'it returns false'. Refute it at one input. -/
def namesAgainWrong : ChangeSpec := { name := "namesAgain", fn := fun _ => fun
  | [d] => { results := [.lit (.bool false)], args := [d] }
  | _ => none }
def NamesAgainWrongFalsely : Prop := namesAgainRow.holds Try.pinned (OpenSpec.ofChange namesAgainWrong)

/-- 'testamurlaw11.NamesScales': WHATEVER THE INPUT: true; the input reads as it did. -/
def namesScalesSpec : ChangeSpec := { name := "namesScales", fn := fun _ => fun
  | [d] => { results := [.lit (.bool true)], args := [d] }
  | _ => none }
def namesScalesRow : OpenClaim := { program := "ytkkkephjljiplaa", sum := "3ed93b2d43053dee4fb315c403d02333b8d3a14026d47729a12259f6594e448a", func := "testamur/testamurlaw11.NamesScales", spec := "namesScales", unfollowed := true, recurses := true, apart := false }
def NamesScalesSaid : Prop := namesScalesRow.holds Try.pinned (OpenSpec.ofChange namesScalesSpec)

/-- ITS FALSE NEIGHBOUR: 'it returns false'. Refute it at one input. -/
def namesScalesWrong : ChangeSpec := { name := "namesScales", fn := fun _ => fun
  | [d] => { results := [.lit (.bool false)], args := [d] }
  | _ => none }
def NamesScalesWrongFalsely : Prop := namesScalesRow.holds Try.pinned (OpenSpec.ofChange namesScalesWrong)

/-- 'testamurlaw11.NamesTwice': WHATEVER THE INPUT: true; the input reads as it did. -/
def namesTwiceSpec : ChangeSpec := { name := "namesTwice", fn := fun _ => fun
  | [d1, d2] => { results := [.lit (.bool true)], args := [d1, d2] }
  | _ => none }
def namesTwiceRow : OpenClaim := { program := "ytkkkephjljiplaa", sum := "3ed93b2d43053dee4fb315c403d02333b8d3a14026d47729a12259f6594e448a", func := "testamur/testamurlaw11.NamesTwice", spec := "namesTwice", unfollowed := true, recurses := true, apart := false }
def NamesTwiceSaid : Prop := namesTwiceRow.holds Try.pinned (OpenSpec.ofChange namesTwiceSpec)

/-- ITS FALSE NEIGHBOUR: 'it returns false'. Refute it at one input. -/
def namesTwiceWrong : ChangeSpec := { name := "namesTwice", fn := fun _ => fun
  | [d1, d2] => { results := [.lit (.bool false)], args := [d1, d2] }
  | _ => none }
def NamesTwiceWrongFalsely : Prop := namesTwiceRow.holds Try.pinned (OpenSpec.ofChange namesTwiceWrong)

/-- 'testamurlaw11.NamesMissing': WHATEVER THE INPUT: true; the input reads as it did. -/
def namesMissingSpec : ChangeSpec := { name := "namesMissing", fn := fun _ => fun
  | [d1, d2] => { results := [.lit (.bool true)], args := [d1, d2] }
  | _ => none }
def namesMissingRow : OpenClaim := { program := "ytkkkephjljiplaa", sum := "3ed93b2d43053dee4fb315c403d02333b8d3a14026d47729a12259f6594e448a", func := "testamur/testamurlaw11.NamesMissing", spec := "namesMissing", unfollowed := true, recurses := true, apart := false }
def NamesMissingSaid : Prop := namesMissingRow.holds Try.pinned (OpenSpec.ofChange namesMissingSpec)

/-- ITS FALSE NEIGHBOUR: 'it returns false'. Refute it at one input. -/
def namesMissingWrong : ChangeSpec := { name := "namesMissing", fn := fun _ => fun
  | [d1, d2] => { results := [.lit (.bool false)], args := [d1, d2] }
  | _ => none }
def NamesMissingWrongFalsely : Prop := namesMissingRow.holds Try.pinned (OpenSpec.ofChange namesMissingWrong)

/-- 'testamurlaw11.NamesFindSpec': WHATEVER THE INPUT: true; the input reads as it did. -/
def namesFindSpecSpec : ChangeSpec := { name := "namesFindSpec", fn := fun _ => fun
  | [d1, d2, d3] => { results := [.lit (.bool true)], args := [d1, d2, d3] }
  | _ => none }
def namesFindSpecRow : OpenClaim := { program := "ytkkkephjljiplaa", sum := "3ed93b2d43053dee4fb315c403d02333b8d3a14026d47729a12259f6594e448a", func := "testamur/testamurlaw11.NamesFindSpec", spec := "namesFindSpec", unfollowed := true, recurses := true, apart := false }
def NamesFindSpecSaid : Prop := namesFindSpecRow.holds Try.pinned (OpenSpec.ofChange namesFindSpecSpec)

/-- ITS FALSE NEIGHBOUR: 'it returns false'. Refute it at one input. -/
def namesFindSpecWrong : ChangeSpec := { name := "namesFindSpec", fn := fun _ => fun
  | [d1, d2, d3] => { results := [.lit (.bool false)], args := [d1, d2, d3] }
  | _ => none }
def NamesFindSpecWrongFalsely : Prop := namesFindSpecRow.holds Try.pinned (OpenSpec.ofChange namesFindSpecWrong)

/- THE SECOND FORM. 'bulk': how many values and letters a reading holds, each counted each time it is reached (what is shared counts as often as it is met; a slice's spare places count too). A statement '..UptoSaid' is the law's where the arguments, and the package variables that the reading takes, are together of bulk at most 1048576: NARROWER than '..Said'. Prove '..Said' where nothing that the law and all that it calls make is longer than what came in: it says more and counts as full. Else prove '..UptoSaid'. A law counts once. -/
mutual
def uptoBulk {H : Type} : DataW H → Nat
  | .lit (.string bytes) => bytes.length + 1
  | .lit _ => 1
  | .nil => 1
  | .ptr d => uptoBulk d + 1
  | .slice elems spare => uptoBulkAll elems + uptoBulkAll spare + 1
  | .agg parts => uptoBulkAll parts + 1
  | .iface _ d => uptoBulk d + 1
  | .map entries => uptoBulkEntries entries + 1
  | .held _ => 1
def uptoBulkAll {H : Type} : List (DataW H) → Nat
  | [] => 0
  | d :: r => uptoBulk d + uptoBulkAll r
def uptoBulkEntries {H : Type} : List (Lit × DataW H) → Nat
  | [] => 0
  | x :: r => uptoBulkEntry x + uptoBulkEntries r
def uptoBulkEntry {H : Type} : Lit × DataW H → Nat
  | (.string bytes, d) => bytes.length + uptoBulk d + 1
  | (_, d) => uptoBulk d + 1
 end
def uptoSmall : (H : Type) → List (DataW H) → Bool := fun _ ds => decide (uptoBulkAll ds ≤ 1048576)
def OpenSpec.upto (s : _root_.Go.ChangeSpec) : _root_.Go.OpenSpec := { _root_.Go.OpenSpec.ofChange s with cond := some uptoSmall }

/-- 'testamurlaw11.NamesResolveSpec', WHERE WHAT IT READS IS OF BULK AT MOST 1048576: true; the input reads as it did. -/
def namesResolveSpecUptoRow : OpenClaim := { program := "ytkkkephjljiplaa", sum := "3ed93b2d43053dee4fb315c403d02333b8d3a14026d47729a12259f6594e448a", func := "testamur/testamurlaw11.NamesResolveSpec", spec := "namesResolveSpec", unfollowed := true, recurses := true, apart := false, narrowed := true }
def NamesResolveSpecUptoSaid : Prop := namesResolveSpecUptoRow.holds Try.pinned (OpenSpec.upto namesResolveSpecSpec)

/-- 'testamurlaw11.NamesMeans', WHERE WHAT IT READS IS OF BULK AT MOST 1048576: true; the input reads as it did. -/
def namesMeansUptoRow : OpenClaim := { program := "ytkkkephjljiplaa", sum := "3ed93b2d43053dee4fb315c403d02333b8d3a14026d47729a12259f6594e448a", func := "testamur/testamurlaw11.NamesMeans", spec := "namesMeans", unfollowed := true, recurses := true, apart := false, narrowed := true }
def NamesMeansUptoSaid : Prop := namesMeansUptoRow.holds Try.pinned (OpenSpec.upto namesMeansSpec)

/-- 'testamurlaw11.NamesAgain', WHERE WHAT IT READS IS OF BULK AT MOST 1048576: true; the input reads as it did. -/
def namesAgainUptoRow : OpenClaim := { program := "ytkkkephjljiplaa", sum := "3ed93b2d43053dee4fb315c403d02333b8d3a14026d47729a12259f6594e448a", func := "testamur/testamurlaw11.NamesAgain", spec := "namesAgain", unfollowed := true, recurses := true, apart := false, narrowed := true }
def NamesAgainUptoSaid : Prop := namesAgainUptoRow.holds Try.pinned (OpenSpec.upto namesAgainSpec)

/-- 'testamurlaw11.NamesScales', WHERE WHAT IT READS IS OF BULK AT MOST 1048576: true; the input reads as it did. -/
def namesScalesUptoRow : OpenClaim := { program := "ytkkkephjljiplaa", sum := "3ed93b2d43053dee4fb315c403d02333b8d3a14026d47729a12259f6594e448a", func := "testamur/testamurlaw11.NamesScales", spec := "namesScales", unfollowed := true, recurses := true, apart := false, narrowed := true }
def NamesScalesUptoSaid : Prop := namesScalesUptoRow.holds Try.pinned (OpenSpec.upto namesScalesSpec)

/-- 'testamurlaw11.NamesTwice', WHERE WHAT IT READS IS OF BULK AT MOST 1048576: true; the input reads as it did. -/
def namesTwiceUptoRow : OpenClaim := { program := "ytkkkephjljiplaa", sum := "3ed93b2d43053dee4fb315c403d02333b8d3a14026d47729a12259f6594e448a", func := "testamur/testamurlaw11.NamesTwice", spec := "namesTwice", unfollowed := true, recurses := true, apart := false, narrowed := true }
def NamesTwiceUptoSaid : Prop := namesTwiceUptoRow.holds Try.pinned (OpenSpec.upto namesTwiceSpec)

/-- 'testamurlaw11.NamesMissing', WHERE WHAT IT READS IS OF BULK AT MOST 1048576: true; the input reads as it did. -/
def namesMissingUptoRow : OpenClaim := { program := "ytkkkephjljiplaa", sum := "3ed93b2d43053dee4fb315c403d02333b8d3a14026d47729a12259f6594e448a", func := "testamur/testamurlaw11.NamesMissing", spec := "namesMissing", unfollowed := true, recurses := true, apart := false, narrowed := true }
def NamesMissingUptoSaid : Prop := namesMissingUptoRow.holds Try.pinned (OpenSpec.upto namesMissingSpec)

/-- 'testamurlaw11.NamesFindSpec', WHERE WHAT IT READS IS OF BULK AT MOST 1048576: true; the input reads as it did. -/
def namesFindSpecUptoRow : OpenClaim := { program := "ytkkkephjljiplaa", sum := "3ed93b2d43053dee4fb315c403d02333b8d3a14026d47729a12259f6594e448a", func := "testamur/testamurlaw11.NamesFindSpec", spec := "namesFindSpec", unfollowed := true, recurses := true, apart := false, narrowed := true }
def NamesFindSpecUptoSaid : Prop := namesFindSpecUptoRow.holds Try.pinned (OpenSpec.upto namesFindSpecSpec)

end Rows
end Go.Proofs.Ytkkkephjljiplaa
