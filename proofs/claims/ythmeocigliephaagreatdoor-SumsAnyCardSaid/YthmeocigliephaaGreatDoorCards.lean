/-
  DERIVED. GIVEN WITH THE SEED: THE CARDS: each row of YthmeocigliephaaGreatDoorRows.lean that lists a variable, with what it lists TIED to the program's text (the seventh form; the later family's looks); each row that meets fmt, with fmt's text TOLD by the authors' own Lean function (tested against real Go, not proved from fmt's source: count such statements apart). THE CARD IS WHAT COUNTS. Prove the row's statement (the work); the ties are given (YthmeocigliephaaGreatDoorTie.lean); close each card by the builder's one call (the guide's Derived/Test/ToyasCard.lean, 'card_holds'). Laid BY PROGRAM, IN A SANDBOX (cutbox-door.mjs). By AI agents, Wed Nov 11 2026. No macro, syntax, notation, axiom, sorry.
-/
import Derived.Test.YthmeocigliephaaGreatDoorRows
import GoSem.ClaimSeven
namespace Go.Proofs.YthmeocigliephaaGreatDoor
namespace Rows

/-- THE TIED CARD OF 'cusplaw05.SumsRows'. -/
def sumsRowsCard : Claim7 := { stood := { row := sumsRowsRow, standIns := [], harness := (true, "d457eda88871fa015732b94f0e159c5606567eb90f8b8bcf109753fc05f7be18"), looks := false }, kinds := [], alts := [], laidByText := true, laidKinds := [.data], laidTests := true, laidLooks := .later }
def SumsRowsCardSaid : Prop := Claim7.holds Tryz.pinned (.plain (OpenSpec.ofChange sumsRowsSpec)) sumsRowsCard

/-- THE TIED CARD OF 'cusplaw05.SumsTwo'. -/
def sumsTwoCard : Claim7 := { stood := { row := sumsTwoRow, standIns := [], harness := (true, "d457eda88871fa015732b94f0e159c5606567eb90f8b8bcf109753fc05f7be18"), looks := false }, kinds := [], alts := [], laidByText := true, laidKinds := [.data], laidTests := true, laidLooks := .later }
def SumsTwoCardSaid : Prop := Claim7.holds Tryz.pinned (.plain (OpenSpec.ofChange sumsTwoSpec)) sumsTwoCard

/-- THE TIED CARD OF 'cusplaw05.SumsExact'. -/
def sumsExactCard : Claim7 := { stood := { row := sumsExactRow, standIns := [], harness := (true, "d457eda88871fa015732b94f0e159c5606567eb90f8b8bcf109753fc05f7be18"), looks := false }, kinds := [], alts := [], laidByText := true, laidKinds := [.data], laidTests := true, laidLooks := .later }
def SumsExactCardSaid : Prop := Claim7.holds Tryz.pinned (.plain (OpenSpec.ofChange sumsExactSpec)) sumsExactCard

/-- THE TIED CARD OF 'cusplaw05.SumsSplit'. -/
def sumsSplitCard : Claim7 := { stood := { row := sumsSplitRow, standIns := [], harness := (true, "d457eda88871fa015732b94f0e159c5606567eb90f8b8bcf109753fc05f7be18"), looks := false }, kinds := [], alts := [], laidByText := true, laidKinds := [.data], laidTests := true, laidLooks := .later }
def SumsSplitCardSaid : Prop := Claim7.holds Tryz.pinned (.plain (OpenSpec.ofChange sumsSplitSpec)) sumsSplitCard

/-- THE TIED CARD OF 'cusplaw05.SumsAny'. -/
def sumsAnyCard : Claim7 := { stood := { row := sumsAnyRow, standIns := [], harness := (true, "d457eda88871fa015732b94f0e159c5606567eb90f8b8bcf109753fc05f7be18"), looks := false }, kinds := [], alts := [], laidByText := true, laidKinds := [.data], laidTests := true, laidLooks := .later }
def SumsAnyCardSaid : Prop := Claim7.holds Tryz.pinned (.plain (OpenSpec.ofChange sumsAnySpec)) sumsAnyCard

/-- THE TIED CARD OF 'cusplaw05.SumsDots'. -/
def sumsDotsCard : Claim7 := { stood := { row := sumsDotsRow, standIns := [], harness := (true, "d457eda88871fa015732b94f0e159c5606567eb90f8b8bcf109753fc05f7be18"), looks := false }, kinds := [], alts := [], laidByText := true, laidKinds := [.data], laidTests := true, laidLooks := .later }
def SumsDotsCardSaid : Prop := Claim7.holds Tryz.pinned (.plain (OpenSpec.ofChange sumsDotsSpec)) sumsDotsCard

/-- THE TIED CARD OF 'cusplaw05.SumsLost'. -/
def sumsLostCard : Claim7 := { stood := { row := sumsLostRow, standIns := [], harness := (true, "d457eda88871fa015732b94f0e159c5606567eb90f8b8bcf109753fc05f7be18"), looks := false }, kinds := [], alts := [], laidByText := true, laidKinds := [.data], laidTests := true, laidLooks := .later }
def SumsLostCardSaid : Prop := Claim7.holds Tryz.pinned (.plain (OpenSpec.ofChange sumsLostSpec)) sumsLostCard

/-- THE SECOND FORM's CARD OF 'cusplaw05.SumsRows'. -/
def sumsRowsUptoCard : Claim7 := { stood := { row := sumsRowsUptoRow, standIns := [], harness := (true, "d457eda88871fa015732b94f0e159c5606567eb90f8b8bcf109753fc05f7be18"), looks := false }, kinds := [], alts := [], laidByText := true, laidKinds := [.data], laidTests := true, laidLooks := .later }
def SumsRowsUptoCardSaid : Prop := Claim7.holds Tryz.pinned (.plain (OpenSpec.upto sumsRowsSpec)) sumsRowsUptoCard

/-- THE SECOND FORM's CARD OF 'cusplaw05.SumsTwo'. -/
def sumsTwoUptoCard : Claim7 := { stood := { row := sumsTwoUptoRow, standIns := [], harness := (true, "d457eda88871fa015732b94f0e159c5606567eb90f8b8bcf109753fc05f7be18"), looks := false }, kinds := [], alts := [], laidByText := true, laidKinds := [.data], laidTests := true, laidLooks := .later }
def SumsTwoUptoCardSaid : Prop := Claim7.holds Tryz.pinned (.plain (OpenSpec.upto sumsTwoSpec)) sumsTwoUptoCard

/-- THE SECOND FORM's CARD OF 'cusplaw05.SumsExact'. -/
def sumsExactUptoCard : Claim7 := { stood := { row := sumsExactUptoRow, standIns := [], harness := (true, "d457eda88871fa015732b94f0e159c5606567eb90f8b8bcf109753fc05f7be18"), looks := false }, kinds := [], alts := [], laidByText := true, laidKinds := [.data], laidTests := true, laidLooks := .later }
def SumsExactUptoCardSaid : Prop := Claim7.holds Tryz.pinned (.plain (OpenSpec.upto sumsExactSpec)) sumsExactUptoCard

/-- THE SECOND FORM's CARD OF 'cusplaw05.SumsSplit'. -/
def sumsSplitUptoCard : Claim7 := { stood := { row := sumsSplitUptoRow, standIns := [], harness := (true, "d457eda88871fa015732b94f0e159c5606567eb90f8b8bcf109753fc05f7be18"), looks := false }, kinds := [], alts := [], laidByText := true, laidKinds := [.data], laidTests := true, laidLooks := .later }
def SumsSplitUptoCardSaid : Prop := Claim7.holds Tryz.pinned (.plain (OpenSpec.upto sumsSplitSpec)) sumsSplitUptoCard

/-- THE SECOND FORM's CARD OF 'cusplaw05.SumsAny'. -/
def sumsAnyUptoCard : Claim7 := { stood := { row := sumsAnyUptoRow, standIns := [], harness := (true, "d457eda88871fa015732b94f0e159c5606567eb90f8b8bcf109753fc05f7be18"), looks := false }, kinds := [], alts := [], laidByText := true, laidKinds := [.data], laidTests := true, laidLooks := .later }
def SumsAnyUptoCardSaid : Prop := Claim7.holds Tryz.pinned (.plain (OpenSpec.upto sumsAnySpec)) sumsAnyUptoCard

/-- THE SECOND FORM's CARD OF 'cusplaw05.SumsDots'. -/
def sumsDotsUptoCard : Claim7 := { stood := { row := sumsDotsUptoRow, standIns := [], harness := (true, "d457eda88871fa015732b94f0e159c5606567eb90f8b8bcf109753fc05f7be18"), looks := false }, kinds := [], alts := [], laidByText := true, laidKinds := [.data], laidTests := true, laidLooks := .later }
def SumsDotsUptoCardSaid : Prop := Claim7.holds Tryz.pinned (.plain (OpenSpec.upto sumsDotsSpec)) sumsDotsUptoCard

/-- THE SECOND FORM's CARD OF 'cusplaw05.SumsLost'. -/
def sumsLostUptoCard : Claim7 := { stood := { row := sumsLostUptoRow, standIns := [], harness := (true, "d457eda88871fa015732b94f0e159c5606567eb90f8b8bcf109753fc05f7be18"), looks := false }, kinds := [], alts := [], laidByText := true, laidKinds := [.data], laidTests := true, laidLooks := .later }
def SumsLostUptoCardSaid : Prop := Claim7.holds Tryz.pinned (.plain (OpenSpec.upto sumsLostSpec)) sumsLostUptoCard
end Rows
end Go.Proofs.YthmeocigliephaaGreatDoor
