/-
  DERIVED. GIVEN WITH THE SEED: THE CARDS: each row of YtnjlocjikfbgdaaDoorRows.lean that lists a variable, with what it lists TIED to the program's text (the seventh form; the later family's looks); each row that meets fmt, with fmt's text TOLD by the authors' own Lean function (tested against real Go, not proved from fmt's source: count such statements apart). THE CARD IS WHAT COUNTS. Prove the row's statement (the work); the ties are given (YtnjlocjikfbgdaaDoorTie.lean); close each card by the builder's one call (the guide's Derived/Test/ToyasCard.lean, 'card_holds'). Laid BY PROGRAM, IN A SANDBOX (cutbox-door.mjs). By AI agents, Wed Nov 11 2026. No macro, syntax, notation, axiom, sorry.
-/
import Derived.Test.YtnjlocjikfbgdaaDoorRows
import GoSem.ClaimSeven
namespace Go.Proofs.YtnjlocjikfbgdaaDoor
namespace Rows

/-- THE TIED CARD OF 'vidimuslaw20.SkeletonsSpans'. -/
def skeletonsSpansCard : Claim7 := { stood := { row := skeletonsSpansRow, standIns := [], harness := (true, "45ed54f5525781148f95ac0f816471ed058789284c8d421fec6cba3fbde2fb21"), looks := true }, kinds := [], alts := [], laidByText := true, laidKinds := [.data, .data, .data], laidTests := true, laidLooks := .later }
def SkeletonsSpansCardSaid : Prop := Claim7.holds Tryd.pinned (.plain (OpenSpec.ofChange skeletonsSpansSpec)) skeletonsSpansCard

/-- THE TIED CARD OF 'vidimuslaw20.SkeletonsGet'. -/
def skeletonsGetCard : Claim7 := { stood := { row := skeletonsGetRow, standIns := [], harness := (true, "45ed54f5525781148f95ac0f816471ed058789284c8d421fec6cba3fbde2fb21"), looks := true }, kinds := [], alts := [], laidByText := true, laidKinds := [.data, .data, .data], laidTests := true, laidLooks := .later }
def SkeletonsGetCardSaid : Prop := Claim7.holds Tryd.pinned (.plain (OpenSpec.ofChange skeletonsGetSpec)) skeletonsGetCard

/-- THE TIED CARD OF 'vidimuslaw20.SkeletonsNames'. -/
def skeletonsNamesCard : Claim7 := { stood := { row := skeletonsNamesRow, standIns := [], harness := (true, "45ed54f5525781148f95ac0f816471ed058789284c8d421fec6cba3fbde2fb21"), looks := true }, kinds := [], alts := [], laidByText := true, laidKinds := [.data, .data, .data, .data], laidTests := true, laidLooks := .later }
def SkeletonsNamesCardSaid : Prop := Claim7.holds Tryd.pinned (.plain (OpenSpec.ofChange skeletonsNamesSpec)) skeletonsNamesCard

/-- THE TIED CARD OF 'vidimuslaw20.SkeletonsMade'. -/
def skeletonsMadeCard : Claim7 := { stood := { row := skeletonsMadeRow, standIns := [], harness := (true, "45ed54f5525781148f95ac0f816471ed058789284c8d421fec6cba3fbde2fb21"), looks := true }, kinds := [], alts := [], laidByText := true, laidKinds := [.data, .data, .data], laidTests := true, laidLooks := .later }
def SkeletonsMadeCardSaid : Prop := Claim7.holds Tryd.pinned (.plain (OpenSpec.ofChange skeletonsMadeSpec)) skeletonsMadeCard

/-- THE TIED CARD OF 'vidimuslaw20.SkeletonsOf'. -/
def skeletonsOfCard : Claim7 := { stood := { row := skeletonsOfRow, standIns := [], harness := (true, "45ed54f5525781148f95ac0f816471ed058789284c8d421fec6cba3fbde2fb21"), looks := true }, kinds := [], alts := [], laidByText := true, laidKinds := [.data, .data, .data], laidTests := true, laidLooks := .later }
def SkeletonsOfCardSaid : Prop := Claim7.holds Tryd.pinned (.plain (OpenSpec.ofChange skeletonsOfSpec)) skeletonsOfCard

/-- THE TIED CARD OF 'vidimuslaw20.SkeletonsKnown'. -/
def skeletonsKnownCard : Claim7 := { stood := { row := skeletonsKnownRow, standIns := [], harness := (true, "45ed54f5525781148f95ac0f816471ed058789284c8d421fec6cba3fbde2fb21"), looks := true }, kinds := [], alts := [], laidByText := true, laidKinds := [.data, .data, .data], laidTests := true, laidLooks := .later }
def SkeletonsKnownCardSaid : Prop := Claim7.holds Tryd.pinned (.plain (OpenSpec.ofChange skeletonsKnownSpec)) skeletonsKnownCard

/-- THE SECOND FORM's CARD OF 'vidimuslaw20.SkeletonsSpans'. -/
def skeletonsSpansUptoCard : Claim7 := { stood := { row := skeletonsSpansUptoRow, standIns := [], harness := (true, "45ed54f5525781148f95ac0f816471ed058789284c8d421fec6cba3fbde2fb21"), looks := true }, kinds := [], alts := [], laidByText := true, laidKinds := [.data, .data, .data], laidTests := true, laidLooks := .later }
def SkeletonsSpansUptoCardSaid : Prop := Claim7.holds Tryd.pinned (.plain (OpenSpec.upto skeletonsSpansSpec)) skeletonsSpansUptoCard

/-- THE SECOND FORM's CARD OF 'vidimuslaw20.SkeletonsGet'. -/
def skeletonsGetUptoCard : Claim7 := { stood := { row := skeletonsGetUptoRow, standIns := [], harness := (true, "45ed54f5525781148f95ac0f816471ed058789284c8d421fec6cba3fbde2fb21"), looks := true }, kinds := [], alts := [], laidByText := true, laidKinds := [.data, .data, .data], laidTests := true, laidLooks := .later }
def SkeletonsGetUptoCardSaid : Prop := Claim7.holds Tryd.pinned (.plain (OpenSpec.upto skeletonsGetSpec)) skeletonsGetUptoCard

/-- THE SECOND FORM's CARD OF 'vidimuslaw20.SkeletonsNames'. -/
def skeletonsNamesUptoCard : Claim7 := { stood := { row := skeletonsNamesUptoRow, standIns := [], harness := (true, "45ed54f5525781148f95ac0f816471ed058789284c8d421fec6cba3fbde2fb21"), looks := true }, kinds := [], alts := [], laidByText := true, laidKinds := [.data, .data, .data, .data], laidTests := true, laidLooks := .later }
def SkeletonsNamesUptoCardSaid : Prop := Claim7.holds Tryd.pinned (.plain (OpenSpec.upto skeletonsNamesSpec)) skeletonsNamesUptoCard

/-- THE SECOND FORM's CARD OF 'vidimuslaw20.SkeletonsMade'. -/
def skeletonsMadeUptoCard : Claim7 := { stood := { row := skeletonsMadeUptoRow, standIns := [], harness := (true, "45ed54f5525781148f95ac0f816471ed058789284c8d421fec6cba3fbde2fb21"), looks := true }, kinds := [], alts := [], laidByText := true, laidKinds := [.data, .data, .data], laidTests := true, laidLooks := .later }
def SkeletonsMadeUptoCardSaid : Prop := Claim7.holds Tryd.pinned (.plain (OpenSpec.upto skeletonsMadeSpec)) skeletonsMadeUptoCard

/-- THE SECOND FORM's CARD OF 'vidimuslaw20.SkeletonsOf'. -/
def skeletonsOfUptoCard : Claim7 := { stood := { row := skeletonsOfUptoRow, standIns := [], harness := (true, "45ed54f5525781148f95ac0f816471ed058789284c8d421fec6cba3fbde2fb21"), looks := true }, kinds := [], alts := [], laidByText := true, laidKinds := [.data, .data, .data], laidTests := true, laidLooks := .later }
def SkeletonsOfUptoCardSaid : Prop := Claim7.holds Tryd.pinned (.plain (OpenSpec.upto skeletonsOfSpec)) skeletonsOfUptoCard

/-- THE SECOND FORM's CARD OF 'vidimuslaw20.SkeletonsKnown'. -/
def skeletonsKnownUptoCard : Claim7 := { stood := { row := skeletonsKnownUptoRow, standIns := [], harness := (true, "45ed54f5525781148f95ac0f816471ed058789284c8d421fec6cba3fbde2fb21"), looks := true }, kinds := [], alts := [], laidByText := true, laidKinds := [.data, .data, .data], laidTests := true, laidLooks := .later }
def SkeletonsKnownUptoCardSaid : Prop := Claim7.holds Tryd.pinned (.plain (OpenSpec.upto skeletonsKnownSpec)) skeletonsKnownUptoCard
end Rows
end Go.Proofs.YtnjlocjikfbgdaaDoor
