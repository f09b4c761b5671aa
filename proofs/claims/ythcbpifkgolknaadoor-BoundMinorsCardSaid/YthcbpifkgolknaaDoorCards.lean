/-
  DERIVED. GIVEN WITH THE SEED: THE CARDS: each row of YthcbpifkgolknaaDoorRows.lean that lists a variable, with what it lists TIED to the program's text (the seventh form; the later family's looks); each row that meets fmt, with fmt's text TOLD by the authors' own Lean function (tested against real Go, not proved from fmt's source: count such statements apart). THE CARD IS WHAT COUNTS. Prove the row's statement (the work); the ties are given (YthcbpifkgolknaaDoorTie.lean); close each card by the builder's one call (the guide's Derived/Test/ToyasCard.lean, 'card_holds'). Laid BY PROGRAM, IN A SANDBOX (cutbox-door.mjs). By AI agents, Wed Nov 11 2026. No macro, syntax, notation, axiom, sorry.
-/
import Derived.Test.YthcbpifkgolknaaDoorRows
import GoSem.ClaimSeven
namespace Go.Proofs.YthcbpifkgolknaaDoor
namespace Rows

/-- THE TIED CARD OF 'torsionlaw09.BoundMatchesReference'. -/
def boundMatchesReferenceCard : Claim7 := { stood := { row := boundMatchesReferenceRow, standIns := [], harness := (true, "7e410114deeb4b09895298f077222b5b3b01584afbcc77ecd289b908264b3d65"), looks := false }, kinds := [], alts := [], laidByText := true, laidKinds := [.data], laidTests := true, laidLooks := .later }
def BoundMatchesReferenceCardSaid : Prop := Claim7.holds Tryd.pinned (.plain (OpenSpec.ofChange boundMatchesReferenceSpec)) boundMatchesReferenceCard

/-- THE TIED CARD OF 'torsionlaw09.BoundHadamard'. -/
def boundHadamardCard : Claim7 := { stood := { row := boundHadamardRow, standIns := [], harness := (true, "7e410114deeb4b09895298f077222b5b3b01584afbcc77ecd289b908264b3d65"), looks := false }, kinds := [], alts := [], laidByText := true, laidKinds := [.data], laidTests := true, laidLooks := .later }
def BoundHadamardCardSaid : Prop := Claim7.holds Tryd.pinned (.plain (OpenSpec.ofChange boundHadamardSpec)) boundHadamardCard

/-- THE TIED CARD OF 'torsionlaw09.BoundMinors'. -/
def boundMinorsCard : Claim7 := { stood := { row := boundMinorsRow, standIns := [], harness := (true, "7e410114deeb4b09895298f077222b5b3b01584afbcc77ecd289b908264b3d65"), looks := false }, kinds := [], alts := [], laidByText := true, laidKinds := [.data], laidTests := true, laidLooks := .later }
def BoundMinorsCardSaid : Prop := Claim7.holds Tryd.pinned (.plain (OpenSpec.ofChange boundMinorsSpec)) boundMinorsCard

/-- THE TIED CARD OF 'torsionlaw09.BoundPrimes'. -/
def boundPrimesCard : Claim7 := { stood := { row := boundPrimesRow, standIns := [], harness := (true, "7e410114deeb4b09895298f077222b5b3b01584afbcc77ecd289b908264b3d65"), looks := false }, kinds := [], alts := [], laidByText := true, laidKinds := [.data], laidTests := true, laidLooks := .later }
def BoundPrimesCardSaid : Prop := Claim7.holds Tryd.pinned (.plain (OpenSpec.ofChange boundPrimesSpec)) boundPrimesCard

/-- THE TIED CARD OF 'torsionlaw09.BoundNeeded'. -/
def boundNeededCard : Claim7 := { stood := { row := boundNeededRow, standIns := [], harness := (true, "7e410114deeb4b09895298f077222b5b3b01584afbcc77ecd289b908264b3d65"), looks := false }, kinds := [], alts := [], laidByText := true, laidKinds := [.data], laidTests := true, laidLooks := .later }
def BoundNeededCardSaid : Prop := Claim7.holds Tryd.pinned (.plain (OpenSpec.ofChange boundNeededSpec)) boundNeededCard

/-- THE SECOND FORM's CARD OF 'torsionlaw09.BoundMatchesReference'. -/
def boundMatchesReferenceUptoCard : Claim7 := { stood := { row := boundMatchesReferenceUptoRow, standIns := [], harness := (true, "7e410114deeb4b09895298f077222b5b3b01584afbcc77ecd289b908264b3d65"), looks := false }, kinds := [], alts := [], laidByText := true, laidKinds := [.data], laidTests := true, laidLooks := .later }
def BoundMatchesReferenceUptoCardSaid : Prop := Claim7.holds Tryd.pinned (.plain (OpenSpec.upto boundMatchesReferenceSpec)) boundMatchesReferenceUptoCard

/-- THE SECOND FORM's CARD OF 'torsionlaw09.BoundHadamard'. -/
def boundHadamardUptoCard : Claim7 := { stood := { row := boundHadamardUptoRow, standIns := [], harness := (true, "7e410114deeb4b09895298f077222b5b3b01584afbcc77ecd289b908264b3d65"), looks := false }, kinds := [], alts := [], laidByText := true, laidKinds := [.data], laidTests := true, laidLooks := .later }
def BoundHadamardUptoCardSaid : Prop := Claim7.holds Tryd.pinned (.plain (OpenSpec.upto boundHadamardSpec)) boundHadamardUptoCard

/-- THE SECOND FORM's CARD OF 'torsionlaw09.BoundMinors'. -/
def boundMinorsUptoCard : Claim7 := { stood := { row := boundMinorsUptoRow, standIns := [], harness := (true, "7e410114deeb4b09895298f077222b5b3b01584afbcc77ecd289b908264b3d65"), looks := false }, kinds := [], alts := [], laidByText := true, laidKinds := [.data], laidTests := true, laidLooks := .later }
def BoundMinorsUptoCardSaid : Prop := Claim7.holds Tryd.pinned (.plain (OpenSpec.upto boundMinorsSpec)) boundMinorsUptoCard

/-- THE SECOND FORM's CARD OF 'torsionlaw09.BoundPrimes'. -/
def boundPrimesUptoCard : Claim7 := { stood := { row := boundPrimesUptoRow, standIns := [], harness := (true, "7e410114deeb4b09895298f077222b5b3b01584afbcc77ecd289b908264b3d65"), looks := false }, kinds := [], alts := [], laidByText := true, laidKinds := [.data], laidTests := true, laidLooks := .later }
def BoundPrimesUptoCardSaid : Prop := Claim7.holds Tryd.pinned (.plain (OpenSpec.upto boundPrimesSpec)) boundPrimesUptoCard

/-- THE SECOND FORM's CARD OF 'torsionlaw09.BoundNeeded'. -/
def boundNeededUptoCard : Claim7 := { stood := { row := boundNeededUptoRow, standIns := [], harness := (true, "7e410114deeb4b09895298f077222b5b3b01584afbcc77ecd289b908264b3d65"), looks := false }, kinds := [], alts := [], laidByText := true, laidKinds := [.data], laidTests := true, laidLooks := .later }
def BoundNeededUptoCardSaid : Prop := Claim7.holds Tryd.pinned (.plain (OpenSpec.upto boundNeededSpec)) boundNeededUptoCard
end Rows
end Go.Proofs.YthcbpifkgolknaaDoor
