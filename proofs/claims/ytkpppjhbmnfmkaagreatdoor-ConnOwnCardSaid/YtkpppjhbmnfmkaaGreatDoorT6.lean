import Derived.Test.YtkpppjhbmnfmkaaGreatDoorT1
import Derived.BigQuiet
set_option linter.unusedSimpArgs false
set_option linter.unusedVariables false
set_option maxHeartbeats 1000000
namespace Go.Proofs.YtkpppjhbmnfmkaaGreatDoor
open Go.RowKit Go.Own Go.Own.Im Go.Own.Cx Go.Own.Fr
section
variable {w:World} {ow:Nat->Tg} {b:Nat} {M:Cv} {L:Lay} {a:Addr}
theorem sending_ok (h:CN w ow b M L) (hd:M.dead=false) (s:Sv) (id:Int) (hs:strAt M id=some s) (ho:s.own=1) (hw:(Lit.int .i64 id).wf=true):Calls Tryz.prog 62 #[.pointer (some ⟨b,0,none⟩),.int .i64 id] w (Says w (.tuple #[.pointer (some ⟨(L.s s.id).sb,0,none⟩),.nilIface])):=by
 have c19:w.cell? ⟨b,19,none⟩=some (.bool M.dead):=h.blk.cell 19;have c15:w.cell? ⟨b,15,none⟩=some (.map (some L.mb)):=h.blk.cell 15;have h0:=look_str h id hw;obtain⟨h1,h2,h3⟩:=at_some (L:=L) hs;rw[h1]at h0;have d1:w.cell? ⟨(L.s s.id).sb,1,none⟩=some (.int .i64 (s.own:Nat)):=(h.p.strs s h2).blk.cell 1;rw[ho]at d1;rw[hd]at c19;generalize (L.s s.id).sb=sb at*
 clear h hd h1 h2 h3 ho hs;go_enter Tryz.func62,Tryz.ntmps62;go_wp2_with fail
 (try(go_quiet (fail)))
 (try go_wp2)
 first|go_ret|go_ret2
 first|exact says0 _ _|exact saysN _ _ _
end
end Go.Proofs.YtkpppjhbmnfmkaaGreatDoor
