/-
  No cell of these rows narrows 'for every input' (looked for: loops, veiled, ifaces, maps, wideKeys, modest, calm, conditions, laid).
  DERIVED. THE GIVEN ROWS OF THIS SEAT. 6 by the template 'for every input the law returns true; each argument reads behind the call as it read before'; 0 by the template 'total and deterministic' (their statements: YtkgmonplcdnnbaaGreatTotals.lean).
  GIVEN WITH THE SEED: the statements are not yours to turn. If you find one false, say at which input.
  Laid BY PROGRAM, IN A SANDBOX (cutbox-rows.mjs): the forced cells as the released guide's own fill.sh prints them over the translation afacc0622c40e656… (all of the seat's roots in one cut). By AI agents, Wed Nov 11 2026. No macro, syntax, notation, axiom, sorry.
-/
import Derived.Test.YtkgmonplcdnnbaaGreatChecked
import GoSem.Claim
import GoSem.ClaimJoined
import GoSem.ClaimMapViews
import Derived.JoinedTies
import Derived.KernelRfl
namespace Go.Proofs.YtkgmonplcdnnbaaGreat
/- THE CELL 'sum', in the pinned program and in every row, IS THE sha256 OF THE DUMP (.gsa) THAT YtkgmonplcdnnbaaGreatProg.lean LOADS. Nothing in Lean hashes anything: it is a label: what it is worth is what the hold of that sum in a sandbox is worth. -/
noncomputable def Tryz.pinned : Pinned := { name := "ytkgmonplcdnnbaagreat", sum := "afacc0622c40e6565a6a64e725e0aad57b2bdc84f6b56f2becc67649698a66ac", checked := Tryz.checked }
namespace Rows
def none {H : Type} : Left H := { results := [], args := [] }

/-- 'testamurlaw23.LeakageOfSpec': WHATEVER THE INPUT: true; the input reads as it did. -/
def leakageOfSpecSpec : ChangeSpec := { name := "leakageOfSpec", fn := fun _ => fun
  | [d1, d2] => { results := [.lit (.bool true)], args := [d1, d2] }
  | _ => none }
def leakageOfSpecRow : OpenClaim := { program := "ytkgmonplcdnnbaagreat", sum := "afacc0622c40e6565a6a64e725e0aad57b2bdc84f6b56f2becc67649698a66ac", func := "testamur/testamurlaw23.LeakageOfSpec", spec := "leakageOfSpec", unfollowed := true, recurses := true, apart := false }
def LeakageOfSpecSaid : Prop := leakageOfSpecRow.holds Tryz.pinned (OpenSpec.ofChange leakageOfSpecSpec)

/-- ITS FALSE NEIGHBOUR: 'it returns false'. Refute it at one input. -/
def leakageOfSpecWrong : ChangeSpec := { name := "leakageOfSpec", fn := fun _ => fun
  | [d1, d2] => { results := [.lit (.bool false)], args := [d1, d2] }
  | _ => none }
def LeakageOfSpecWrongFalsely : Prop := leakageOfSpecRow.holds Tryz.pinned (OpenSpec.ofChange leakageOfSpecWrong)

/-- 'testamurlaw23.LeakageOrderSpec': WHATEVER THE INPUT: true; the input reads as it did. -/
def leakageOrderSpecSpec : ChangeSpec := { name := "leakageOrderSpec", fn := fun _ => fun
  | [d1, d2] => { results := [.lit (.bool true)], args := [d1, d2] }
  | _ => none }
def leakageOrderSpecRow : OpenClaim := { program := "ytkgmonplcdnnbaagreat", sum := "afacc0622c40e6565a6a64e725e0aad57b2bdc84f6b56f2becc67649698a66ac", func := "testamur/testamurlaw23.LeakageOrderSpec", spec := "leakageOrderSpec", unfollowed := true, recurses := true, apart := false }
def LeakageOrderSpecSaid : Prop := leakageOrderSpecRow.holds Tryz.pinned (OpenSpec.ofChange leakageOrderSpecSpec)

/-- ITS FALSE NEIGHBOUR: 'it returns false'. Refute it at one input. -/
def leakageOrderSpecWrong : ChangeSpec := { name := "leakageOrderSpec", fn := fun _ => fun
  | [d1, d2] => { results := [.lit (.bool false)], args := [d1, d2] }
  | _ => none }
def LeakageOrderSpecWrongFalsely : Prop := leakageOrderSpecRow.holds Tryz.pinned (OpenSpec.ofChange leakageOrderSpecWrong)

/-- 'testamurlaw23.LeakageMore': WHATEVER THE INPUT: true; the input reads as it did. -/
def leakageMoreSpec : ChangeSpec := { name := "leakageMore", fn := fun _ => fun
  | [d1, d2, d3, d4] => { results := [.lit (.bool true)], args := [d1, d2, d3, d4] }
  | _ => none }
def leakageMoreRow : OpenClaim := { program := "ytkgmonplcdnnbaagreat", sum := "afacc0622c40e6565a6a64e725e0aad57b2bdc84f6b56f2becc67649698a66ac", func := "testamur/testamurlaw23.LeakageMore", spec := "leakageMore", unfollowed := true, recurses := true, apart := false }
def LeakageMoreSaid : Prop := leakageMoreRow.holds Tryz.pinned (OpenSpec.ofChange leakageMoreSpec)

/-- ITS FALSE NEIGHBOUR: 'it returns false'. Refute it at one input. -/
def leakageMoreWrong : ChangeSpec := { name := "leakageMore", fn := fun _ => fun
  | [d1, d2, d3, d4] => { results := [.lit (.bool false)], args := [d1, d2, d3, d4] }
  | _ => none }
def LeakageMoreWrongFalsely : Prop := leakageMoreRow.holds Tryz.pinned (OpenSpec.ofChange leakageMoreWrong)

/-- 'testamurlaw23.LeakageSums': WHATEVER THE INPUT: true; the input reads as it did. -/
def leakageSumsSpec : ChangeSpec := { name := "leakageSums", fn := fun _ => fun
  | [d1, d2, d3] => { results := [.lit (.bool true)], args := [d1, d2, d3] }
  | _ => none }
def leakageSumsRow : OpenClaim := { program := "ytkgmonplcdnnbaagreat", sum := "afacc0622c40e6565a6a64e725e0aad57b2bdc84f6b56f2becc67649698a66ac", func := "testamur/testamurlaw23.LeakageSums", spec := "leakageSums", unfollowed := true, recurses := true, apart := false }
def LeakageSumsSaid : Prop := leakageSumsRow.holds Tryz.pinned (OpenSpec.ofChange leakageSumsSpec)

/-- ITS FALSE NEIGHBOUR: 'it returns false'. Refute it at one input. -/
def leakageSumsWrong : ChangeSpec := { name := "leakageSums", fn := fun _ => fun
  | [d1, d2, d3] => { results := [.lit (.bool false)], args := [d1, d2, d3] }
  | _ => none }
def LeakageSumsWrongFalsely : Prop := leakageSumsRow.holds Tryz.pinned (OpenSpec.ofChange leakageSumsWrong)

/-- 'testamurlaw23.LeakageWhole': WHATEVER THE INPUT: true; the input reads as it did. -/
def leakageWholeSpec : ChangeSpec := { name := "leakageWhole", fn := fun _ => fun
  | [d1, d2, d3] => { results := [.lit (.bool true)], args := [d1, d2, d3] }
  | _ => none }
def leakageWholeRow : OpenClaim := { program := "ytkgmonplcdnnbaagreat", sum := "afacc0622c40e6565a6a64e725e0aad57b2bdc84f6b56f2becc67649698a66ac", func := "testamur/testamurlaw23.LeakageWhole", spec := "leakageWhole", unfollowed := true, recurses := true, apart := false }
def LeakageWholeSaid : Prop := leakageWholeRow.holds Tryz.pinned (OpenSpec.ofChange leakageWholeSpec)

/-- ITS FALSE NEIGHBOUR: 'it returns false'. Refute it at one input. -/
def leakageWholeWrong : ChangeSpec := { name := "leakageWhole", fn := fun _ => fun
  | [d1, d2, d3] => { results := [.lit (.bool false)], args := [d1, d2, d3] }
  | _ => none }
def LeakageWholeWrongFalsely : Prop := leakageWholeRow.holds Tryz.pinned (OpenSpec.ofChange leakageWholeWrong)

/-- 'testamurlaw23.LeakageOrder': WHATEVER THE INPUT: true; the input reads as it did. -/
def leakageOrderSpec : ChangeSpec := { name := "leakageOrder", fn := fun _ => fun
  | [d1, d2, d3] => { results := [.lit (.bool true)], args := [d1, d2, d3] }
  | _ => none }
def leakageOrderRow : OpenClaim := { program := "ytkgmonplcdnnbaagreat", sum := "afacc0622c40e6565a6a64e725e0aad57b2bdc84f6b56f2becc67649698a66ac", func := "testamur/testamurlaw23.LeakageOrder", spec := "leakageOrder", unfollowed := true, recurses := true, apart := false }
def LeakageOrderSaid : Prop := leakageOrderRow.holds Tryz.pinned (OpenSpec.ofChange leakageOrderSpec)

/-- ITS FALSE NEIGHBOUR: 'it returns false'. Refute it at one input. -/
def leakageOrderWrong : ChangeSpec := { name := "leakageOrder", fn := fun _ => fun
  | [d1, d2, d3] => { results := [.lit (.bool false)], args := [d1, d2, d3] }
  | _ => none }
def LeakageOrderWrongFalsely : Prop := leakageOrderRow.holds Tryz.pinned (OpenSpec.ofChange leakageOrderWrong)

/- THE SECOND FORM. 'bulk': how many values and letters a reading holds, each counted each time it is reached (what is shared counts as often as it is met; a slice's spare places count too). A statement '..UptoSaid' is the law's where the arguments, and the package variables that the reading takes, are together of bulk at most 1048576: NARROWER than '..Said'. Prove '..Said' where nothing that the law and all that it calls make is longer than what came in: it says more and counts as full. Else prove '..UptoSaid'. A law counts once. -/
mutual
def uptoBulk {H : Type} : DataW H → Nat
  | .lit (.string bytes) => bytes.length + 1
  | .lit _ => 1
  | .nil => 1
  | .ptr d => uptoBulk d + 1
  | .slice elems spare => uptoBulkAll elems + uptoBulkAll spare + 1
  | .agg parts => uptoBulkAll parts + 1
  | .iface _ d => uptoBulk d + 1
  | .map entries => uptoBulkEntries entries + 1
  | .held _ => 1
def uptoBulkAll {H : Type} : List (DataW H) → Nat
  | [] => 0
  | d :: r => uptoBulk d + uptoBulkAll r
def uptoBulkEntries {H : Type} : List (Lit × DataW H) → Nat
  | [] => 0
  | x :: r => uptoBulkEntry x + uptoBulkEntries r
def uptoBulkEntry {H : Type} : Lit × DataW H → Nat
  | (.string bytes, d) => bytes.length + uptoBulk d + 1
  | (_, d) => uptoBulk d + 1
 end
def uptoSmall : (H : Type) → List (DataW H) → Bool := fun _ ds => decide (uptoBulkAll ds ≤ 1048576)
def OpenSpec.upto (s : _root_.Go.ChangeSpec) : _root_.Go.OpenSpec := { _root_.Go.OpenSpec.ofChange s with cond := some uptoSmall }

/-- 'testamurlaw23.LeakageOfSpec', WHERE WHAT IT READS IS OF BULK AT MOST 1048576: true; the input reads as it did. -/
def leakageOfSpecUptoRow : OpenClaim := { program := "ytkgmonplcdnnbaagreat", sum := "afacc0622c40e6565a6a64e725e0aad57b2bdc84f6b56f2becc67649698a66ac", func := "testamur/testamurlaw23.LeakageOfSpec", spec := "leakageOfSpec", unfollowed := true, recurses := true, apart := false, narrowed := true }
def LeakageOfSpecUptoSaid : Prop := leakageOfSpecUptoRow.holds Tryz.pinned (OpenSpec.upto leakageOfSpecSpec)

/-- 'testamurlaw23.LeakageOrderSpec', WHERE WHAT IT READS IS OF BULK AT MOST 1048576: true; the input reads as it did. -/
def leakageOrderSpecUptoRow : OpenClaim := { program := "ytkgmonplcdnnbaagreat", sum := "afacc0622c40e6565a6a64e725e0aad57b2bdc84f6b56f2becc67649698a66ac", func := "testamur/testamurlaw23.LeakageOrderSpec", spec := "leakageOrderSpec", unfollowed := true, recurses := true, apart := false, narrowed := true }
def LeakageOrderSpecUptoSaid : Prop := leakageOrderSpecUptoRow.holds Tryz.pinned (OpenSpec.upto leakageOrderSpecSpec)

/-- 'testamurlaw23.LeakageMore', WHERE WHAT IT READS IS OF BULK AT MOST 1048576: true; the input reads as it did. -/
def leakageMoreUptoRow : OpenClaim := { program := "ytkgmonplcdnnbaagreat", sum := "afacc0622c40e6565a6a64e725e0aad57b2bdc84f6b56f2becc67649698a66ac", func := "testamur/testamurlaw23.LeakageMore", spec := "leakageMore", unfollowed := true, recurses := true, apart := false, narrowed := true }
def LeakageMoreUptoSaid : Prop := leakageMoreUptoRow.holds Tryz.pinned (OpenSpec.upto leakageMoreSpec)

/-- 'testamurlaw23.LeakageSums', WHERE WHAT IT READS IS OF BULK AT MOST 1048576: true; the input reads as it did. -/
def leakageSumsUptoRow : OpenClaim := { program := "ytkgmonplcdnnbaagreat", sum := "afacc0622c40e6565a6a64e725e0aad57b2bdc84f6b56f2becc67649698a66ac", func := "testamur/testamurlaw23.LeakageSums", spec := "leakageSums", unfollowed := true, recurses := true, apart := false, narrowed := true }
def LeakageSumsUptoSaid : Prop := leakageSumsUptoRow.holds Tryz.pinned (OpenSpec.upto leakageSumsSpec)

/-- 'testamurlaw23.LeakageWhole', WHERE WHAT IT READS IS OF BULK AT MOST 1048576: true; the input reads as it did. -/
def leakageWholeUptoRow : OpenClaim := { program := "ytkgmonplcdnnbaagreat", sum := "afacc0622c40e6565a6a64e725e0aad57b2bdc84f6b56f2becc67649698a66ac", func := "testamur/testamurlaw23.LeakageWhole", spec := "leakageWhole", unfollowed := true, recurses := true, apart := false, narrowed := true }
def LeakageWholeUptoSaid : Prop := leakageWholeUptoRow.holds Tryz.pinned (OpenSpec.upto leakageWholeSpec)

/-- 'testamurlaw23.LeakageOrder', WHERE WHAT IT READS IS OF BULK AT MOST 1048576: true; the input reads as it did. -/
def leakageOrderUptoRow : OpenClaim := { program := "ytkgmonplcdnnbaagreat", sum := "afacc0622c40e6565a6a64e725e0aad57b2bdc84f6b56f2becc67649698a66ac", func := "testamur/testamurlaw23.LeakageOrder", spec := "leakageOrder", unfollowed := true, recurses := true, apart := false, narrowed := true }
def LeakageOrderUptoSaid : Prop := leakageOrderUptoRow.holds Tryz.pinned (OpenSpec.upto leakageOrderSpec)

end Rows
end Go.Proofs.YtkgmonplcdnnbaaGreat
