/-
  NARROWER THAN 'FOR EVERY INPUT', by the rows' own cells (each row's printed sentence says how): SumsRows: laid · SumsTwo: laid · SumsExact: laid · SumsSplit: laid · SumsAny: laid · SumsDots: laid · SumsLost: laid.
  DERIVED. THE GIVEN ROWS OF THIS SEAT. 7 by the template 'for every input the law returns true; each argument reads behind the call as it read before'; 0 by the template 'total and deterministic' (their statements: YthmeocigliephaaGreatDoorTotals.lean).
  GIVEN WITH THE SEED: the statements are not yours to turn. If you find one false, say at which input.
  Laid BY PROGRAM, IN A SANDBOX (cutbox-rows.mjs): the forced cells as the released guide's own fill.sh prints them over the translation 45e7aed1f9d4396e… (all of the seat's roots in one cut). By AI agents, Wed Nov 11 2026. No macro, syntax, notation, axiom, sorry.
-/
import Derived.Test.YthmeocigliephaaGreatDoorChecked
import GoSem.Claim
import GoSem.ClaimJoined
import GoSem.ClaimMapViews
import Derived.JoinedTies
import Derived.KernelRfl
namespace Go.Proofs.YthmeocigliephaaGreatDoor
/- THE CELL 'sum', in the pinned program and in every row, IS THE sha256 OF THE DUMP (.gsa) THAT YthmeocigliephaaGreatDoorProg.lean LOADS. Nothing in Lean hashes anything: it is a label: what it is worth is what the hold of that sum in a sandbox is worth. -/
noncomputable def Tryz.pinned : Pinned := { name := "ythmeocigliephaagreatdoor", sum := "45e7aed1f9d4396e1a06d132bcfa61e2e5cec7296f580dbd20437115d6edb05d", checked := Tryz.checked }
namespace Rows
def none {H : Type} : Left H := { results := [], args := [] }

/- WHAT THE LISTED PACKAGE-LEVEL VARIABLES READ AS WHEN THE CALL BEGINS. Each datum BY PROGRAM (the guide's laid-datum.mjs) off the statement by which the dump's own 'gosem.cut.vars' lays the variable. In a bare row this is a premise. The card (YthmeocigliephaaGreatDoorCards.lean) ties it to the program's text. -/
def laid_math_bits_deBruijn32tab {H : Type} : DataW H := .agg [.lit (.int .u8 0), .lit (.int .u8 1), .lit (.int .u8 28), .lit (.int .u8 2), .lit (.int .u8 29), .lit (.int .u8 14), .lit (.int .u8 24), .lit (.int .u8 3), .lit (.int .u8 30), .lit (.int .u8 22), .lit (.int .u8 20), .lit (.int .u8 15), .lit (.int .u8 25), .lit (.int .u8 17), .lit (.int .u8 4), .lit (.int .u8 8), .lit (.int .u8 31), .lit (.int .u8 27), .lit (.int .u8 13), .lit (.int .u8 23), .lit (.int .u8 21), .lit (.int .u8 19), .lit (.int .u8 16), .lit (.int .u8 7), .lit (.int .u8 26), .lit (.int .u8 12), .lit (.int .u8 18), .lit (.int .u8 6), .lit (.int .u8 11), .lit (.int .u8 5), .lit (.int .u8 10), .lit (.int .u8 9)]

/-- 'cusplaw05.SumsRows': WHATEVER THE INPUT: true; the input reads as it did. -/
def sumsRowsSpec : ChangeSpec := { name := "sumsRows", fn := fun _ => fun
  | [d] => { results := [.lit (.bool true)], args := [d] }
  | _ => none }
def sumsRowsRow : OpenClaim := { program := "ythmeocigliephaagreatdoor", sum := "45e7aed1f9d4396e1a06d132bcfa61e2e5cec7296f580dbd20437115d6edb05d", func := "cusp/cusplaw05.SumsRows", spec := "sumsRows", inPlace := ["math.Float64frombits", "math.Float64bits"], unfollowed := true, recurses := true, named := ["math/bits.deBruijn32tab"], apart := false, laid := [("math/bits.deBruijn32tab", laid_math_bits_deBruijn32tab)] }
def SumsRowsSaid : Prop := sumsRowsRow.holds Tryz.pinned (OpenSpec.ofChange sumsRowsSpec)

/-- ITS FALSE NEIGHBOUR: 'it returns false'. Refute it at one input. -/
def sumsRowsWrong : ChangeSpec := { name := "sumsRows", fn := fun _ => fun
  | [d] => { results := [.lit (.bool false)], args := [d] }
  | _ => none }
def SumsRowsWrongFalsely : Prop := sumsRowsRow.holds Tryz.pinned (OpenSpec.ofChange sumsRowsWrong)

/-- 'cusplaw05.SumsTwo': WHATEVER THE INPUT: true; the input reads as it did. -/
def sumsTwoSpec : ChangeSpec := { name := "sumsTwo", fn := fun _ => fun
  | [d1, d2] => { results := [.lit (.bool true)], args := [d1, d2] }
  | _ => none }
def sumsTwoRow : OpenClaim := { program := "ythmeocigliephaagreatdoor", sum := "45e7aed1f9d4396e1a06d132bcfa61e2e5cec7296f580dbd20437115d6edb05d", func := "cusp/cusplaw05.SumsTwo", spec := "sumsTwo", inPlace := ["math.Float64frombits", "math.Float64bits"], unfollowed := true, recurses := true, named := ["math/bits.deBruijn32tab"], apart := false, laid := [("math/bits.deBruijn32tab", laid_math_bits_deBruijn32tab)] }
def SumsTwoSaid : Prop := sumsTwoRow.holds Tryz.pinned (OpenSpec.ofChange sumsTwoSpec)

/-- ITS FALSE NEIGHBOUR: 'it returns false'. Refute it at one input. -/
def sumsTwoWrong : ChangeSpec := { name := "sumsTwo", fn := fun _ => fun
  | [d1, d2] => { results := [.lit (.bool false)], args := [d1, d2] }
  | _ => none }
def SumsTwoWrongFalsely : Prop := sumsTwoRow.holds Tryz.pinned (OpenSpec.ofChange sumsTwoWrong)

/-- 'cusplaw05.SumsExact': WHATEVER THE INPUT: true; the input reads as it did. -/
def sumsExactSpec : ChangeSpec := { name := "sumsExact", fn := fun _ => fun
  | [d1, d2] => { results := [.lit (.bool true)], args := [d1, d2] }
  | _ => none }
def sumsExactRow : OpenClaim := { program := "ythmeocigliephaagreatdoor", sum := "45e7aed1f9d4396e1a06d132bcfa61e2e5cec7296f580dbd20437115d6edb05d", func := "cusp/cusplaw05.SumsExact", spec := "sumsExact", inPlace := ["math.Float64bits", "math.Float64frombits"], unfollowed := true, recurses := true, named := ["math/bits.deBruijn32tab"], apart := false, laid := [("math/bits.deBruijn32tab", laid_math_bits_deBruijn32tab)] }
def SumsExactSaid : Prop := sumsExactRow.holds Tryz.pinned (OpenSpec.ofChange sumsExactSpec)

/-- ITS FALSE NEIGHBOUR: 'it returns false'. Refute it at one input. -/
def sumsExactWrong : ChangeSpec := { name := "sumsExact", fn := fun _ => fun
  | [d1, d2] => { results := [.lit (.bool false)], args := [d1, d2] }
  | _ => none }
def SumsExactWrongFalsely : Prop := sumsExactRow.holds Tryz.pinned (OpenSpec.ofChange sumsExactWrong)

/-- 'cusplaw05.SumsSplit': WHATEVER THE INPUT: true; the input reads as it did. -/
def sumsSplitSpec : ChangeSpec := { name := "sumsSplit", fn := fun _ => fun
  | [d1, d2] => { results := [.lit (.bool true)], args := [d1, d2] }
  | _ => none }
def sumsSplitRow : OpenClaim := { program := "ythmeocigliephaagreatdoor", sum := "45e7aed1f9d4396e1a06d132bcfa61e2e5cec7296f580dbd20437115d6edb05d", func := "cusp/cusplaw05.SumsSplit", spec := "sumsSplit", inPlace := ["math.Float64frombits", "math.Float64bits"], unfollowed := true, recurses := true, named := ["math/bits.deBruijn32tab"], apart := false, laid := [("math/bits.deBruijn32tab", laid_math_bits_deBruijn32tab)] }
def SumsSplitSaid : Prop := sumsSplitRow.holds Tryz.pinned (OpenSpec.ofChange sumsSplitSpec)

/-- ITS FALSE NEIGHBOUR: 'it returns false'. Refute it at one input. -/
def sumsSplitWrong : ChangeSpec := { name := "sumsSplit", fn := fun _ => fun
  | [d1, d2] => { results := [.lit (.bool false)], args := [d1, d2] }
  | _ => none }
def SumsSplitWrongFalsely : Prop := sumsSplitRow.holds Tryz.pinned (OpenSpec.ofChange sumsSplitWrong)

/-- 'cusplaw05.SumsAny': WHATEVER THE INPUT: true; the input reads as it did. -/
def sumsAnySpec : ChangeSpec := { name := "sumsAny", fn := fun _ => fun
  | [d1, d2, d3] => { results := [.lit (.bool true)], args := [d1, d2, d3] }
  | _ => none }
def sumsAnyRow : OpenClaim := { program := "ythmeocigliephaagreatdoor", sum := "45e7aed1f9d4396e1a06d132bcfa61e2e5cec7296f580dbd20437115d6edb05d", func := "cusp/cusplaw05.SumsAny", spec := "sumsAny", inPlace := ["math.Float64bits", "math.Float64frombits"], unfollowed := true, recurses := true, named := ["math/bits.deBruijn32tab"], apart := false, laid := [("math/bits.deBruijn32tab", laid_math_bits_deBruijn32tab)] }
def SumsAnySaid : Prop := sumsAnyRow.holds Tryz.pinned (OpenSpec.ofChange sumsAnySpec)

/-- ITS FALSE NEIGHBOUR: 'it returns false'. Refute it at one input. -/
def sumsAnyWrong : ChangeSpec := { name := "sumsAny", fn := fun _ => fun
  | [d1, d2, d3] => { results := [.lit (.bool false)], args := [d1, d2, d3] }
  | _ => none }
def SumsAnyWrongFalsely : Prop := sumsAnyRow.holds Tryz.pinned (OpenSpec.ofChange sumsAnyWrong)

/-- 'cusplaw05.SumsDots': WHATEVER THE INPUT: true; the input reads as it did. -/
def sumsDotsSpec : ChangeSpec := { name := "sumsDots", fn := fun _ => fun
  | [d1, d2, d3] => { results := [.lit (.bool true)], args := [d1, d2, d3] }
  | _ => none }
def sumsDotsRow : OpenClaim := { program := "ythmeocigliephaagreatdoor", sum := "45e7aed1f9d4396e1a06d132bcfa61e2e5cec7296f580dbd20437115d6edb05d", func := "cusp/cusplaw05.SumsDots", spec := "sumsDots", inPlace := ["math.Float64bits", "math.Float64frombits"], unfollowed := true, recurses := true, named := ["math/bits.deBruijn32tab"], apart := false, laid := [("math/bits.deBruijn32tab", laid_math_bits_deBruijn32tab)] }
def SumsDotsSaid : Prop := sumsDotsRow.holds Tryz.pinned (OpenSpec.ofChange sumsDotsSpec)

/-- ITS FALSE NEIGHBOUR: 'it returns false'. Refute it at one input. -/
def sumsDotsWrong : ChangeSpec := { name := "sumsDots", fn := fun _ => fun
  | [d1, d2, d3] => { results := [.lit (.bool false)], args := [d1, d2, d3] }
  | _ => none }
def SumsDotsWrongFalsely : Prop := sumsDotsRow.holds Tryz.pinned (OpenSpec.ofChange sumsDotsWrong)

/-- 'cusplaw05.SumsLost': WHATEVER THE INPUT: true; the input reads as it did. -/
def sumsLostSpec : ChangeSpec := { name := "sumsLost", fn := fun _ => fun
  | [d1, d2] => { results := [.lit (.bool true)], args := [d1, d2] }
  | _ => none }
def sumsLostRow : OpenClaim := { program := "ythmeocigliephaagreatdoor", sum := "45e7aed1f9d4396e1a06d132bcfa61e2e5cec7296f580dbd20437115d6edb05d", func := "cusp/cusplaw05.SumsLost", spec := "sumsLost", inPlace := ["math.Float64bits", "math.Float64frombits"], unfollowed := true, recurses := true, named := ["math/bits.deBruijn32tab"], apart := false, laid := [("math/bits.deBruijn32tab", laid_math_bits_deBruijn32tab)] }
def SumsLostSaid : Prop := sumsLostRow.holds Tryz.pinned (OpenSpec.ofChange sumsLostSpec)

/-- ITS FALSE NEIGHBOUR: 'it returns false'. Refute it at one input. -/
def sumsLostWrong : ChangeSpec := { name := "sumsLost", fn := fun _ => fun
  | [d1, d2] => { results := [.lit (.bool false)], args := [d1, d2] }
  | _ => none }
def SumsLostWrongFalsely : Prop := sumsLostRow.holds Tryz.pinned (OpenSpec.ofChange sumsLostWrong)

/- THE SECOND FORM. 'bulk': how many values and letters a reading holds, each counted each time it is reached (what is shared counts as often as it is met; a slice's spare places count too). A statement '..UptoSaid' is the law's where the arguments, and the package variables that the reading takes, are together of bulk at most 1048576: NARROWER than '..Said'. Prove '..Said' where nothing that the law and all that it calls make is longer than what came in: it says more and counts as full. Else prove '..UptoSaid'. A law counts once. -/
mutual
def uptoBulk {H : Type} : DataW H → Nat
  | .lit (.string bytes) => bytes.length + 1
  | .lit _ => 1
  | .nil => 1
  | .ptr d => uptoBulk d + 1
  | .slice elems spare => uptoBulkAll elems + uptoBulkAll spare + 1
  | .agg parts => uptoBulkAll parts + 1
  | .iface _ d => uptoBulk d + 1
  | .map entries => uptoBulkEntries entries + 1
  | .held _ => 1
def uptoBulkAll {H : Type} : List (DataW H) → Nat
  | [] => 0
  | d :: r => uptoBulk d + uptoBulkAll r
def uptoBulkEntries {H : Type} : List (Lit × DataW H) → Nat
  | [] => 0
  | x :: r => uptoBulkEntry x + uptoBulkEntries r
def uptoBulkEntry {H : Type} : Lit × DataW H → Nat
  | (.string bytes, d) => bytes.length + uptoBulk d + 1
  | (_, d) => uptoBulk d + 1
 end
def uptoSmall : (H : Type) → List (DataW H) → Bool := fun _ ds => decide (uptoBulkAll ds ≤ 1048576)
def OpenSpec.upto (s : _root_.Go.ChangeSpec) : _root_.Go.OpenSpec := { _root_.Go.OpenSpec.ofChange s with cond := some uptoSmall }

/-- 'cusplaw05.SumsRows', WHERE WHAT IT READS IS OF BULK AT MOST 1048576: true; the input reads as it did. -/
def sumsRowsUptoRow : OpenClaim := { program := "ythmeocigliephaagreatdoor", sum := "45e7aed1f9d4396e1a06d132bcfa61e2e5cec7296f580dbd20437115d6edb05d", func := "cusp/cusplaw05.SumsRows", spec := "sumsRows", inPlace := ["math.Float64frombits", "math.Float64bits"], unfollowed := true, recurses := true, named := ["math/bits.deBruijn32tab"], apart := false, laid := [("math/bits.deBruijn32tab", laid_math_bits_deBruijn32tab)], narrowed := true }
def SumsRowsUptoSaid : Prop := sumsRowsUptoRow.holds Tryz.pinned (OpenSpec.upto sumsRowsSpec)

/-- 'cusplaw05.SumsTwo', WHERE WHAT IT READS IS OF BULK AT MOST 1048576: true; the input reads as it did. -/
def sumsTwoUptoRow : OpenClaim := { program := "ythmeocigliephaagreatdoor", sum := "45e7aed1f9d4396e1a06d132bcfa61e2e5cec7296f580dbd20437115d6edb05d", func := "cusp/cusplaw05.SumsTwo", spec := "sumsTwo", inPlace := ["math.Float64frombits", "math.Float64bits"], unfollowed := true, recurses := true, named := ["math/bits.deBruijn32tab"], apart := false, laid := [("math/bits.deBruijn32tab", laid_math_bits_deBruijn32tab)], narrowed := true }
def SumsTwoUptoSaid : Prop := sumsTwoUptoRow.holds Tryz.pinned (OpenSpec.upto sumsTwoSpec)

/-- 'cusplaw05.SumsExact', WHERE WHAT IT READS IS OF BULK AT MOST 1048576: true; the input reads as it did. -/
def sumsExactUptoRow : OpenClaim := { program := "ythmeocigliephaagreatdoor", sum := "45e7aed1f9d4396e1a06d132bcfa61e2e5cec7296f580dbd20437115d6edb05d", func := "cusp/cusplaw05.SumsExact", spec := "sumsExact", inPlace := ["math.Float64bits", "math.Float64frombits"], unfollowed := true, recurses := true, named := ["math/bits.deBruijn32tab"], apart := false, laid := [("math/bits.deBruijn32tab", laid_math_bits_deBruijn32tab)], narrowed := true }
def SumsExactUptoSaid : Prop := sumsExactUptoRow.holds Tryz.pinned (OpenSpec.upto sumsExactSpec)

/-- 'cusplaw05.SumsSplit', WHERE WHAT IT READS IS OF BULK AT MOST 1048576: true; the input reads as it did. -/
def sumsSplitUptoRow : OpenClaim := { program := "ythmeocigliephaagreatdoor", sum := "45e7aed1f9d4396e1a06d132bcfa61e2e5cec7296f580dbd20437115d6edb05d", func := "cusp/cusplaw05.SumsSplit", spec := "sumsSplit", inPlace := ["math.Float64frombits", "math.Float64bits"], unfollowed := true, recurses := true, named := ["math/bits.deBruijn32tab"], apart := false, laid := [("math/bits.deBruijn32tab", laid_math_bits_deBruijn32tab)], narrowed := true }
def SumsSplitUptoSaid : Prop := sumsSplitUptoRow.holds Tryz.pinned (OpenSpec.upto sumsSplitSpec)

/-- 'cusplaw05.SumsAny', WHERE WHAT IT READS IS OF BULK AT MOST 1048576: true; the input reads as it did. -/
def sumsAnyUptoRow : OpenClaim := { program := "ythmeocigliephaagreatdoor", sum := "45e7aed1f9d4396e1a06d132bcfa61e2e5cec7296f580dbd20437115d6edb05d", func := "cusp/cusplaw05.SumsAny", spec := "sumsAny", inPlace := ["math.Float64bits", "math.Float64frombits"], unfollowed := true, recurses := true, named := ["math/bits.deBruijn32tab"], apart := false, laid := [("math/bits.deBruijn32tab", laid_math_bits_deBruijn32tab)], narrowed := true }
def SumsAnyUptoSaid : Prop := sumsAnyUptoRow.holds Tryz.pinned (OpenSpec.upto sumsAnySpec)

/-- 'cusplaw05.SumsDots', WHERE WHAT IT READS IS OF BULK AT MOST 1048576: true; the input reads as it did. -/
def sumsDotsUptoRow : OpenClaim := { program := "ythmeocigliephaagreatdoor", sum := "45e7aed1f9d4396e1a06d132bcfa61e2e5cec7296f580dbd20437115d6edb05d", func := "cusp/cusplaw05.SumsDots", spec := "sumsDots", inPlace := ["math.Float64bits", "math.Float64frombits"], unfollowed := true, recurses := true, named := ["math/bits.deBruijn32tab"], apart := false, laid := [("math/bits.deBruijn32tab", laid_math_bits_deBruijn32tab)], narrowed := true }
def SumsDotsUptoSaid : Prop := sumsDotsUptoRow.holds Tryz.pinned (OpenSpec.upto sumsDotsSpec)

/-- 'cusplaw05.SumsLost', WHERE WHAT IT READS IS OF BULK AT MOST 1048576: true; the input reads as it did. -/
def sumsLostUptoRow : OpenClaim := { program := "ythmeocigliephaagreatdoor", sum := "45e7aed1f9d4396e1a06d132bcfa61e2e5cec7296f580dbd20437115d6edb05d", func := "cusp/cusplaw05.SumsLost", spec := "sumsLost", inPlace := ["math.Float64bits", "math.Float64frombits"], unfollowed := true, recurses := true, named := ["math/bits.deBruijn32tab"], apart := false, laid := [("math/bits.deBruijn32tab", laid_math_bits_deBruijn32tab)], narrowed := true }
def SumsLostUptoSaid : Prop := sumsLostUptoRow.holds Tryz.pinned (OpenSpec.upto sumsLostSpec)

end Rows
end Go.Proofs.YthmeocigliephaaGreatDoor
