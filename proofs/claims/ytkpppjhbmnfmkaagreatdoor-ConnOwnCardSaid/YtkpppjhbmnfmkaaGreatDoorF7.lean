import Derived.Test.YtkpppjhbmnfmkaaGreatDoorJan
set_option linter.unusedSimpArgs false
set_option linter.unusedVariables false
set_option maxHeartbeats 2000000
set_option maxRecDepth 100000
namespace Go.Proofs.YtkpppjhbmnfmkaaGreatDoor
open Lib (hid)
open Go.RowKit Go.Own Go.Own.Im Go.Own.Cx Go.Own.Fr
theorem data_idle (w:World) (ow:Nat->Tg) (b:Nat) (M:Cv) (L:Lay) (i:Inf) (sv dv sz:Value) (h:CN w ow b M L) (hk:knownB M i.stream=false):
 Calls Tryz.prog 148 #[.pointer (some ⟨b,0,none⟩),.agg (infC i sv dv),sz] w λe w'=>e= .panicked (fltE 1 0)/\Below w.heap.size w w':=by
 have HX:=hid (Blk.new w 91 (infC i sv dv));have h0:=hid ((Below.refl w.heap.size w).alloc (Nat.le_refl _) (.cells (infC i sv dv) 91));have HI:=hid (idle_bad _ ow b M L i.stream (h.below h0.out) hk);clear h hk;go_enter Tryz.func148,Tryz.ntmps148;go_upto_region 1 with fail;generalize w.alloc (.cells (infC i sv dv) 91)=W0 at*
 have x2:W0.cell? ⟨w.heap.size,2,none⟩=some (.int .i64 (i.stream:Nat)):=HX.out.cell 2;go_wp2_with fail;with_reducible refine HI.out.mono ?_
 rintro e w1 ⟨rfl,hw⟩;subst w1;go_wp2;exact⟨rfl,rfl,h0.out⟩
end Go.Proofs.YtkpppjhbmnfmkaaGreatDoor
