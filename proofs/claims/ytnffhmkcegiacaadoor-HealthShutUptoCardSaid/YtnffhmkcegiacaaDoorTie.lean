/-
  DERIVED. GIVEN WITH THE SEED: THE PROGRAM's TIES (one call each: nine closed facts by the kernel) AND EACH ROW's TIE, after the 31st guide's Derived/Test/Toyas{Tie, Card}.lean. No idea stands in it: it is a product of the set-up. Laid BY PROGRAM, IN A SANDBOX (cutbox-door.mjs). By AI agents, Wed Nov 11 2026. No macro, syntax, notation, axiom, sorry.
-/
import Derived.Test.YtnffhmkcegiacaaDoorRows
import Derived.LaidByTextLater
import Derived.SevenTiedAt
import Derived.LaidSub
import Derived.LaidOnce
namespace Go.Proofs.YtnffhmkcegiacaaDoor
open Go
set_option maxRecDepth 100000
theorem seatTie1 : Tryd.prog.laidByTextLater [("parley/api.ErrGone", Rows.laid_parley_api_ErrGone), ("parley/api.ErrMany", Rows.laid_parley_api_ErrMany), ("parley/api.ErrNumber", Rows.laid_parley_api_ErrNumber), ("parley/api.ErrName", Rows.laid_parley_api_ErrName), ("parley/api.ErrStatus", Rows.laid_parley_api_ErrStatus)] [.sentinel, .sentinel, .sentinel, .sentinel, .sentinel] true :=
  Program.laidByTextLater_by_one 104 8 2 (by kernel_rfl) (by kernel_rfl) (by kernel_rfl) (by kernel_rfl) (by kernel_rfl) (by kernel_rfl) (fun _ _ => by kernel_rfl)
theorem noOwnUnsafe : Tryd.pinned.checked.prog.headLifts.contains "ownunsafe" = false := by kernel_rfl
theorem tie : Tryd.prog.laidByTextLater [("parley/api.ErrGone", Rows.laid_parley_api_ErrGone), ("parley/api.ErrMany", Rows.laid_parley_api_ErrMany), ("parley/api.ErrNumber", Rows.laid_parley_api_ErrNumber), ("parley/api.ErrName", Rows.laid_parley_api_ErrName), ("parley/api.ErrStatus", Rows.laid_parley_api_ErrStatus)] [.sentinel, .sentinel, .sentinel, .sentinel, .sentinel] true :=
  Program.laidByTextLater.sub seatTie1 ["parley/api.ErrGone", "parley/api.ErrMany", "parley/api.ErrNumber", "parley/api.ErrName", "parley/api.ErrStatus"] (by kernel_rfl) (by kernel_rfl)
theorem healthShut_row_tie : Rows.healthShutRow.laidByTextAt .later Tryd.pinned [.sentinel, .sentinel, .sentinel, .sentinel, .sentinel] true :=
  OpenClaim.laidByTextAt_later rfl rfl tie noOwnUnsafe
theorem healthShutUpto_row_tie : Rows.healthShutUptoRow.laidByTextAt .later Tryd.pinned [.sentinel, .sentinel, .sentinel, .sentinel, .sentinel] true :=
  OpenClaim.laidByTextAt_later rfl rfl tie noOwnUnsafe
end Go.Proofs.YtnffhmkcegiacaaDoor
