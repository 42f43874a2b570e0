/-
  DERIVED. GIVEN WITH THE SEED: THE PROGRAM's TIES (one call each: nine closed facts by the kernel) AND EACH ROW's TIE, after the 31st guide's Derived/Test/Toyas{Tie, Card}.lean. No idea stands in it: it is a product of the set-up. Laid BY PROGRAM, IN A SANDBOX (cutbox-door.mjs). By AI agents, Wed Nov 11 2026. No macro, syntax, notation, axiom, sorry.
-/
import Derived.Test.YtnjlocjikfbgdaaDoorRows
import Derived.LaidByTextLater
import Derived.SevenTiedAt
import Derived.LaidSub
import Derived.LaidOnce
namespace Go.Proofs.YtnjlocjikfbgdaaDoor
open Go
set_option maxRecDepth 100000
theorem seatTie1 : Tryd.prog.laidByTextLater [("vidimus/skeletons.sequence", Rows.laid_vidimus_skeletons_sequence), ("vidimus/skeletons.integer", Rows.laid_vidimus_skeletons_integer), ("vidimus/skeletons.table", Rows.laid_vidimus_skeletons_table), ("vidimus/skeletons.texts", Rows.laid_vidimus_skeletons_texts)] [.data, .data, .data, .data] true :=
  Program.laidByTextLater_by_one 55 8 66 (by kernel_rfl) (by kernel_rfl) (by kernel_rfl) (by kernel_rfl) (by kernel_rfl) (by kernel_rfl) (fun _ _ => by kernel_rfl)
theorem noOwnUnsafe : Tryd.pinned.checked.prog.headLifts.contains "ownunsafe" = false := by kernel_rfl
theorem tie : Tryd.prog.laidByTextLater [("vidimus/skeletons.sequence", Rows.laid_vidimus_skeletons_sequence), ("vidimus/skeletons.integer", Rows.laid_vidimus_skeletons_integer), ("vidimus/skeletons.table", Rows.laid_vidimus_skeletons_table)] [.data, .data, .data] true :=
  Program.laidByTextLater.sub seatTie1 ["vidimus/skeletons.sequence", "vidimus/skeletons.integer", "vidimus/skeletons.table"] (by kernel_rfl) (by kernel_rfl)
theorem skeletonsSpans_row_tie : Rows.skeletonsSpansRow.laidByTextAt .later Tryd.pinned [.data, .data, .data] true :=
  OpenClaim.laidByTextAt_later rfl rfl tie noOwnUnsafe
theorem skeletonsGet_row_tie : Rows.skeletonsGetRow.laidByTextAt .later Tryd.pinned [.data, .data, .data] true :=
  OpenClaim.laidByTextAt_later rfl rfl tie noOwnUnsafe
theorem skeletonsMade_row_tie : Rows.skeletonsMadeRow.laidByTextAt .later Tryd.pinned [.data, .data, .data] true :=
  OpenClaim.laidByTextAt_later rfl rfl tie noOwnUnsafe
theorem skeletonsOf_row_tie : Rows.skeletonsOfRow.laidByTextAt .later Tryd.pinned [.data, .data, .data] true :=
  OpenClaim.laidByTextAt_later rfl rfl tie noOwnUnsafe
theorem skeletonsKnown_row_tie : Rows.skeletonsKnownRow.laidByTextAt .later Tryd.pinned [.data, .data, .data] true :=
  OpenClaim.laidByTextAt_later rfl rfl tie noOwnUnsafe
theorem tie2 : Tryd.prog.laidByTextLater [("vidimus/skeletons.sequence", Rows.laid_vidimus_skeletons_sequence), ("vidimus/skeletons.integer", Rows.laid_vidimus_skeletons_integer), ("vidimus/skeletons.table", Rows.laid_vidimus_skeletons_table), ("vidimus/skeletons.texts", Rows.laid_vidimus_skeletons_texts)] [.data, .data, .data, .data] true :=
  Program.laidByTextLater.sub seatTie1 ["vidimus/skeletons.sequence", "vidimus/skeletons.integer", "vidimus/skeletons.table", "vidimus/skeletons.texts"] (by kernel_rfl) (by kernel_rfl)
theorem skeletonsNames_row_tie : Rows.skeletonsNamesRow.laidByTextAt .later Tryd.pinned [.data, .data, .data, .data] true :=
  OpenClaim.laidByTextAt_later rfl rfl tie2 noOwnUnsafe
theorem skeletonsSpansUpto_row_tie : Rows.skeletonsSpansUptoRow.laidByTextAt .later Tryd.pinned [.data, .data, .data] true :=
  OpenClaim.laidByTextAt_later rfl rfl tie noOwnUnsafe
theorem skeletonsGetUpto_row_tie : Rows.skeletonsGetUptoRow.laidByTextAt .later Tryd.pinned [.data, .data, .data] true :=
  OpenClaim.laidByTextAt_later rfl rfl tie noOwnUnsafe
theorem skeletonsNamesUpto_row_tie : Rows.skeletonsNamesUptoRow.laidByTextAt .later Tryd.pinned [.data, .data, .data, .data] true :=
  OpenClaim.laidByTextAt_later rfl rfl tie2 noOwnUnsafe
theorem skeletonsMadeUpto_row_tie : Rows.skeletonsMadeUptoRow.laidByTextAt .later Tryd.pinned [.data, .data, .data] true :=
  OpenClaim.laidByTextAt_later rfl rfl tie noOwnUnsafe
theorem skeletonsOfUpto_row_tie : Rows.skeletonsOfUptoRow.laidByTextAt .later Tryd.pinned [.data, .data, .data] true :=
  OpenClaim.laidByTextAt_later rfl rfl tie noOwnUnsafe
theorem skeletonsKnownUpto_row_tie : Rows.skeletonsKnownUptoRow.laidByTextAt .later Tryd.pinned [.data, .data, .data] true :=
  OpenClaim.laidByTextAt_later rfl rfl tie noOwnUnsafe
end Go.Proofs.YtnjlocjikfbgdaaDoor
