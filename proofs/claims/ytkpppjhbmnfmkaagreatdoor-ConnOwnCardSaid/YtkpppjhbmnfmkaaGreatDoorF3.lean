import Derived.Test.YtkpppjhbmnfmkaaGreatDoorJaq
import Derived.Test.YtkpppjhbmnfmkaaGreatDoorJao
set_option linter.unusedSimpArgs false
set_option linter.unusedVariables false
set_option maxHeartbeats 4000000
set_option maxRecDepth 100000
namespace Go.Proofs.YtkpppjhbmnfmkaaGreatDoor
open Go.RowKit Go.Own Go.Own.Im Go.Own.Cx Go.Own.Fr
attribute [local go_sem] Oper.semAt_some
theorem infC_reset (s c:Nat):infC {typ:=3,stream:=s,code:=c} (.slice none 0 0) (.slice none 0 0)= #[.int .i64 3,.int .i64 0,.int .i64 (s:Nat),.bool false,.bool false,.bool false,.bool false,.bool false,.bool false,.int .i64 0,.int .i64 0,.int .i64 0,.int .i64 (c:Nat),.int .i64 0,.int .i64 0,.int .i64 0,.slice none 0 0,.slice none 0 0]:=rfl
theorem flg_reset (s c:Nat):flg {typ:=3,stream:=s,code:=c}=0:=by simp[flg]
theorem pay_reset (s c:Nat):pay {typ:=3,stream:=s,code:=c}=be c 4:=by simp[pay]
theorem CN.last_ {w:World} {ow:Nat->Tg} {b:Nat} {M:Cv} {L:Lay} (h:CN w ow b M L) (id:Nat):CN (w.setCell ⟨b,14,none⟩ (.int .i64 (id:Nat))) ow b {M with last:=id} L/\Fr w ow (w.setCell ⟨b,14,none⟩ (.int .i64 (id:Nat))) ow:=
 h.cell (M':={M with last:=id}) (L':=L) 14 _ rfl h.p
theorem opened_many (w:World) (ow:Nat->Tg) (b:Nat) (M:Cv) (L:Lay) (id:Nat) (lv:Value) (fin:Bool) (h:CN w ow b M L) (hid:id≠0/\id<=2147483647) (hm:M.cs<=(M.strs.length:Int)) (ho:M.out.length<=1000000000):
 Calls Tryz.prog 196 #[.pointer (some ⟨b,0,none⟩),.int .i64 (id:Nat),lv,.bool fin] w (CPost w ow b {M with last:=id,out:=M.out++frameB 3 0 id (be 7 4)} (.tuple #[])):=by
 have hl:=h.last_ id;have h1:=Lib.hid hl.2;have c14:w.cell? ⟨b,14,none⟩=some (.int .i64 (M.last:Nat)):=h.blk.cell 14;have f14:=h.blk.frozen 14;have h0:=λty (n:Nat)=>(hl.1.drewN n).p.map.len Tryz.underlying74 ty;simp only[List.length_map]at h0;have HP:=λn=>put_any _ ow b _ L _ _ (hl.1.drewN n) rfl (bld_reset _ id 7 hid.1 hid.2 (by omega)) ho;rw[infC_reset,flg_reset,pay_reset]at HP;have HP:=Lib.hid HP;have k15:(w.setCell ⟨b,14,none⟩ (.int .i64 (id:Nat))).cell? ⟨b,15,none⟩=some (.map (some L.mb)):=hl.1.blk.cell 15;have k2:(w.setCell ⟨b,14,none⟩ (.int .i64 (id:Nat))).cell? ⟨b,2,none⟩=some (.int .i64 M.cs):=hl.1.blk.cell 2;clear h hl;generalize hn:M.strs.length=n at*
 clear hn;go_enter Tryz.func196,Tryz.ntmps196;go_upto_region 1 with fail;generalize w.setCell ⟨b,14,none⟩ (.int .i64 (id:Nat))=W1 at*
 go_quiet (fail);go_wp2_with (first
  |(go_at_call 39
    refine(HP.out _).mono ?_;intro e w' hp;obtain rfl:=hp.ret;have HQ:=Lib.hid hp;clear hp)
  |fail)
 go_end0;exact HQ.out.trans (h1.out.trans (Fr.drewN _ ow _))
end Go.Proofs.YtkpppjhbmnfmkaaGreatDoor
