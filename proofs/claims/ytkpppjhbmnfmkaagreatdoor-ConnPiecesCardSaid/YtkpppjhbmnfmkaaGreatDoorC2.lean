import Derived.Test.YtkpppjhbmnfmkaaGreatDoorJaj
set_option linter.unusedSimpArgs false
set_option linter.unusedVariables false
set_option maxHeartbeats 1000000
set_option maxRecDepth 100000
namespace Go.Proofs.YtkpppjhbmnfmkaaGreatDoor
open Lib (hid)
open Go.RowKit Go.Own Go.Own.Im Go.Own.Cx Go.Own.Fr
theorem infC_away (n c:Nat):infC {typ:=7,last:=n,code:=c} (.slice none 0 0) (.slice none 0 0)= #[.int .i64 7,.int .i64 0,.int .i64 0,.bool false,.bool false,.bool false,.bool false,.bool false,.bool false,.int .i64 0,.int .i64 0,.int .i64 0,.int .i64 (c:Nat),.int .i64 (n:Nat),.int .i64 0,.int .i64 0,.slice none 0 0,.slice none 0 0]:=rfl
theorem flg_away (n c:Nat):flg {typ:=7,last:=n,code:=c}=0:=by simp[flg]
theorem pay_away (n c:Nat):pay {typ:=7,last:=n,code:=c}=be n 4++be c 4:=by simp[pay]
def lastB (M:Cv):Nat:=if M.side=2 then M.last else 0
theorem bound_any (w:World) (ow:Nat->Tg) (b:Nat) (M:Cv) (L:Lay) (c:Nat) (h:CN w ow b M L) (hc:c<4294967296) (hl:M.last<=2147483647) (ho:M.out.length<=1000000000):
 Calls Tryz.prog 112 #[.pointer (some ⟨b,0,none⟩),.int .i64 (c:Nat)] w (CPost w ow b {M with out:=M.out++frameB 7 0 0 (be (lastB M) 4++be c 4)} (.tuple #[])):=by
 have c0:w.cell? ⟨b,0,none⟩=some (.int .i64 (M.side:Nat)):=h.blk.cell 0;have c14:w.cell? ⟨b,14,none⟩=some (.int .i64 (M.last:Nat)):=h.blk.cell 14;have h0:lastB M<=2147483647:=by unfold lastB;split<;>omega
 have HP:=put_any w ow b M L _ _ h rfl (bld_away w (lastB M) c h0 hc) ho;rw[infC_away,flg_away,pay_away]at HP;have HP:=hid HP;clear h ho hc h0;by_cases hs:M.side=2
 · rw[show lastB M=M.last by unfold lastB;rw[if_pos hs]]at HP ⊢
   rw[hs]at c0;clear hs hl;generalize M.last=la at*
   go_enter Tryz.func112,Tryz.ntmps112;go_wp2_with fail;refine HP.out.mono ?_;intro e w' hp;obtain rfl:=hp.ret;have HQ:=hid hp;clear hp;go_wp2;go_end0;exact HQ.out
 · rw[show lastB M=0 by unfold lastB;rw[if_neg hs]]at HP ⊢
   have h1:((M.side:Int)==2)=false:=by simp;omega
   have h2:¬(M.side:Int)=2:=by omega
   clear hs hl c14;generalize M.side=sd at*
   go_enter Tryz.func112,Tryz.ntmps112;go_wp2_with fail;refine HP.out.mono ?_;intro e w' hp;obtain rfl:=hp.ret;have HQ:=hid hp;clear hp;go_wp2;go_end0;exact HQ.out
end Go.Proofs.YtkpppjhbmnfmkaaGreatDoor
