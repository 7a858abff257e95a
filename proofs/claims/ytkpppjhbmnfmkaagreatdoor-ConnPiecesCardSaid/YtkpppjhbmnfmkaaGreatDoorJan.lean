/-
  
  
  
  
  
  
  
  
  
-/
import Derived.Test.YtkpppjhbmnfmkaaGreatDoorJam
import Derived.Test.YtkpppjhbmnfmkaaGreatDoorJal
import Derived.Test.YtkpppjhbmnfmkaaGreatDoorJad
import Derived.Test.YtkpppjhbmnfmkaaGreatDoorJaj
import Derived.Deep.RegionHeld3
import Derived.Deep.RegionLaw
import Derived.Test.YtkpppjhbmnfmkaaGreatDoorJah
import Derived.BigQuiet
import Derived.Laws.IdiomRangeMap
import Derived.Test.YtkpppjhbmnfmkaaGreatDoorJar
set_option linter.unusedSimpArgs false
set_option linter.unusedVariables false
section
set_option maxHeartbeats 4000000
set_option maxRecDepth 100000
namespace Go.Proofs.YtkpppjhbmnfmkaaGreatDoor
open Lib (hid)
open Go.RowKit Go.Own Go.Own.Im Go.Own.Cx Go.Own.Fr
theorem infC_ack:infC {typ:=4,ack:=true} (.slice none 0 0) (.slice none 0 0)= #[.int .i64 4,.int .i64 0,.int .i64 0,.bool false,.bool false,.bool true,.bool false,.bool false,.bool false,.int .i64 0,.int .i64 0,.int .i64 0,.int .i64 0,.int .i64 0,.int .i64 0,.int .i64 0,.slice none 0 0,.slice none 0 0]:=rfl
theorem flg_ack:flg {typ:=4,ack:=true}=1:=by decide
theorem pay_ack:pay {typ:=4,ack:=true}=[]:=rfl
theorem evC_plain (k s c l:Nat) (f:Bool):evC {kind:=k,stream:=s,code:=c,last:=l,fin:=f}= #[.int .i64 (k:Nat),.int .i64 (s:Nat),.int .i64 (c:Nat),.int .i64 (l:Nat),.bool f,.slice none 0 0,.slice none 0 0]:=rfl
theorem evOk_plain (w:World) (ow:Nat->Tg) (k s c l:Nat) (f:Bool):EvOk w ow {kind:=k,stream:=s,code:=c,last:=l,fin:=f}:=
 ⟨⟨Nat.le_refl _,Cm.RS.nil,λh=>absurd h (Nat.lt_irrefl _)⟩,⟨Nat.le_refl _,rd_nil0 w _,λh=>absurd h (Nat.lt_irrefl _)⟩⟩
theorem CPost.trans {w w1 w2:World} {ow ow1:Nat->Tg} {b:Nat} {M2:Cv} {v2:Value} {e2:Ending} (h:Fr w ow w1 ow1) (k:CPost w1 ow1 b M2 v2 e2 w2):CPost w ow b M2 v2 e2 w2:=by
 obtain⟨ow2,L2,e,hc,hf⟩:=k;exact⟨ow2,L2,e,hc,h.trans hf⟩
theorem settings_none (w:World) (ow:Nat->Tg) (b:Nat) (M:Cv) (L:Lay) (i:Inf) (S:Option Addr) (d:Nat) (dv sz:Value) (h:CN w ow b M L) (ha:i.ack=false) (ho:M.out.length<=1000000000) (hn:M.evs.length<=900000):
 Calls Tryz.prog 155 #[.pointer (some ⟨b,0,none⟩),.agg (infC i (.slice S 0 d) dv),sz] w (CPost w ow b {M with out:=M.out++frameB 4 1 0 [],evs:=M.evs++[{kind:=7}]} (.tuple #[])):=by
 have HX:=hid (Blk.new w 91 (infC i (.slice S 0 d) dv));have h0:=hid ((Below.refl w.heap.size w).alloc (Nat.le_refl _) (.cells (infC i (.slice S 0 d) dv) 91));have HC:=hid h;have HN:=hid hn;have HO:=hid ho;have HA:=hid ha;clear h hn ho ha;go_enter Tryz.func155,Tryz.ntmps155;go_upto_region 1 with fail;generalize w.alloc (.cells (infC i (.slice S 0 d) dv) 91)=W0 at*
 have h3:=hid (HC.out.below h0.out);have c5:W0.cell? ⟨w.heap.size,5,none⟩=some (.bool i.ack):=HX.out.cell 5;rw[HA.out]at c5;have c16:W0.cell? ⟨w.heap.size,16,none⟩=some (.slice S 0 d):=HX.out.cell 16;have HP:=put_any W0 ow b M L _ _ h3.out rfl (bld_ack W0) HO.out;rw[infC_ack,flg_ack,pay_ack]at HP;have HP:=hid HP;go_wp2_with fail;go_loop [60] (λt=>t= .int .i64 0) (λ_=>0)
 case atStart=>rfl
 case round=>
 obtain rfl:=hrel;go_wp2_with (first
  |(go_at_call 39
    refine HP.out.mono ?_;rintro e w1 ⟨ow1,L1,rfl,h1,h2⟩;have h4:=hid ((Fr.below h0.out ow).trans h2);have HT:=tell_any w1 ow1 b _ L1 {kind:=7} h1 (evOk_plain _ _ _ _ _ _ _) HN.out;rw[evC_plain]at HT;have HT:=hid HT;clear h1 h2)
  |(go_at_call 109
    refine HT.out.mono ?_;intro e w2 hp;obtain rfl:=hp.ret;have HQ:=hid hp;clear hp)
  |fail)
 go_end0;exact HQ.out.trans h4.out
end Go.Proofs.YtkpppjhbmnfmkaaGreatDoor
end

section
set_option maxHeartbeats 4000000
set_option maxRecDepth 100000
namespace Go.Proofs.YtkpppjhbmnfmkaaGreatDoor
open Go.RowKit Go.Own Go.Own.Im Go.Own.Cx Go.Own.Fr
attribute [local go_sem] Oper.semAt_some
theorem infC_reset (s c:Nat):infC {typ:=3,stream:=s,code:=c} (.slice none 0 0) (.slice none 0 0)= #[.int .i64 3,.int .i64 0,.int .i64 (s:Nat),.bool false,.bool false,.bool false,.bool false,.bool false,.bool false,.int .i64 0,.int .i64 0,.int .i64 0,.int .i64 (c:Nat),.int .i64 0,.int .i64 0,.int .i64 0,.slice none 0 0,.slice none 0 0]:=rfl
theorem flg_reset (s c:Nat):flg {typ:=3,stream:=s,code:=c}=0:=by simp[flg]
theorem pay_reset (s c:Nat):pay {typ:=3,stream:=s,code:=c}=be c 4:=by simp[pay]
theorem CN.last_ {w:World} {ow:Nat->Tg} {b:Nat} {M:Cv} {L:Lay} (h:CN w ow b M L) (id:Nat):CN (w.setCell ⟨b,14,none⟩ (.int .i64 (id:Nat))) ow b {M with last:=id} L/\Fr w ow (w.setCell ⟨b,14,none⟩ (.int .i64 (id:Nat))) ow:=
 h.cell (M':={M with last:=id}) (L':=L) 14 _ rfl h.p
theorem opened_many (w:World) (ow:Nat->Tg) (b:Nat) (M:Cv) (L:Lay) (id:Nat) (lv:Value) (fin:Bool) (h:CN w ow b M L) (hid:id≠0/\id<=2147483647) (hm:M.cs<=(M.strs.length:Int)) (ho:M.out.length<=1000000000):
 Calls Tryz.prog 196 #[.pointer (some ⟨b,0,none⟩),.int .i64 (id:Nat),lv,.bool fin] w (CPost w ow b {M with last:=id,out:=M.out++frameB 3 0 id (be 7 4)} (.tuple #[])):=by
 have hl:=h.last_ id;have h1:=Lib.hid hl.2;have c14:w.cell? ⟨b,14,none⟩=some (.int .i64 (M.last:Nat)):=h.blk.cell 14;have f14:=h.blk.frozen 14;have h0:=λty (n:Nat)=>(hl.1.drewN n).p.map.len Tryz.underlying74 ty;simp only[List.length_map]at h0;have HP:=λn=>put_any _ ow b _ L _ _ (hl.1.drewN n) rfl (bld_reset _ id 7 hid.1 hid.2 (by omega)) ho;rw[infC_reset,flg_reset,pay_reset]at HP;have HP:=Lib.hid HP;have k15:(w.setCell ⟨b,14,none⟩ (.int .i64 (id:Nat))).cell? ⟨b,15,none⟩=some (.map (some L.mb)):=hl.1.blk.cell 15;have k2:(w.setCell ⟨b,14,none⟩ (.int .i64 (id:Nat))).cell? ⟨b,2,none⟩=some (.int .i64 M.cs):=hl.1.blk.cell 2;clear h hl;generalize hn:M.strs.length=n at*
 clear hn;go_enter Tryz.func196,Tryz.ntmps196;go_upto_region 1 with fail;generalize w.setCell ⟨b,14,none⟩ (.int .i64 (id:Nat))=W1 at*
 go_quiet (fail);go_wp2_with (first
  |(go_at_call 39
    refine(HP.out _).mono ?_;intro e w' hp;obtain rfl:=hp.ret;have HQ:=Lib.hid hp;clear hp)
  |fail)
 go_end0;exact HQ.out.trans (h1.out.trans (Fr.drewN _ ow _))
end Go.Proofs.YtkpppjhbmnfmkaaGreatDoor
end

section
set_option maxHeartbeats 8000000
set_option maxRecDepth 100000
namespace Go.Proofs.YtkpppjhbmnfmkaaGreatDoor
open Go.RowKit Go.Own Go.Own.Im Go.Own.Cx Go.Own.Fr
attribute [local go_sem] Oper.semAt_some
def HeadOk (A:Option Addr) (n c:Nat) (W:World):Prop:=
 Calls Tryz.prog 57 #[.slice A n c] W λe W'=>∃a1 a2 a3 a4 v,e= .returned (.tuple #[.agg #[.string a1,.string a2,.string a3,.string a4,v],.nilIface])/\(∃A' n' c',v= .slice A' n' c')/\Below W.heap.size W W'
theorem opened_ok (w:World) (ow:Nat->Tg) (b:Nat) (M:Cv) (L:Lay) (id:Nat) (A:Option Addr) (c:Nat) (hs:List Hd.HdrV) (fin:Bool) (h:CN w ow b M L) (hid:id<=2147483647) (hb:∀s∈M.strs,s.id≠id) (hm:(M.strs.length:Int)<M.cs) (hbye:M.bye=false)
 (h0:0<=M.window/\M.window<=2147483647) (h1:0<=M.others/\M.others<=2147483647) (hn:M.strs.length<=1000000) (hu:(M.strs.map (·.id)).Nodup) (hl:hs.length<=c) (hD:Cm.RS hdrC 3 w w.heap.size A hs.length hs) (ht:0<hs.length) (h5:∀ad,A=some ad->ow ad.block= .evd) (hF:M.evs.length<=900000)
 (hG:∀W,Fr w ow W ow->Cm.RS hdrC 3 W w.heap.size A hs.length hs->HeadOk A hs.length c W):
 Calls Tryz.prog 196 #[.pointer (some ⟨b,0,none⟩),.int .i64 (id:Nat),.slice A hs.length c,.bool fin] w
  (CPost w ow b {M with last:=id,strs:=M.strs++[endS {id:=id,other:=1,inw:=M.window,outw:=M.others} fin],evs:=M.evs++[{kind:=1,stream:=id,fin:=fin,la:=A,lc:=c,l:=hs}]} (.tuple #[])):=by
 have h4:=h.last_ id;have hX:=Lib.hid h4.1;have hY:=Lib.hid h4.2;have c14:w.cell? ⟨b,14,none⟩=some (.int .i64 (M.last:Nat)):=h.blk.cell 14;have f14:=h.blk.frozen 14;have hw:=λty (n:Nat)=>(h4.1.drewN n).p.map.len Tryz.underlying74 ty;simp only[List.length_map]at hw;have k15:(w.setCell ⟨b,14,none⟩ (.int .i64 (id:Nat))).cell? ⟨b,15,none⟩=some (.map (some L.mb)):=h4.1.blk.cell 15;have k2:(w.setCell ⟨b,14,none⟩ (.int .i64 (id:Nat))).cell? ⟨b,2,none⟩=some (.int .i64 M.cs):=h4.1.blk.cell 2;have k17:(w.setCell ⟨b,14,none⟩ (.int .i64 (id:Nat))).cell? ⟨b,17,none⟩=some (.bool M.bye):=h4.1.blk.cell 17;rw[hbye]at k17;have H8:¬M.cs<=(M.strs.length:Int):=by omega
 have hj:=Lib.hid (show Cm.RS hdrC 3 (w.setCell ⟨b,14,none⟩ (.int .i64 (id:Nat))) w.heap.size A hs.length hs from hD.setCell (λad e=>λe2=>by have:=h5 ad e;rw[e2]at this;simp only at this;rw[h.tb]at this;cases this) _);have hZ:=Lib.hid (show(w.setCell ⟨b,14,none⟩ (.int .i64 (id:Nat))).heap.size=w.heap.size by simp[World.setCell]);have H0:=Lib.hid (λn=>hG ((w.setCell ⟨b,14,none⟩ (.int .i64 (id:Nat))).drewN n) (h4.2.trans (Fr.drewN _ ow n)) (hj.out.keep (Nat.le_refl _) λ_ _ _ _=>rfl));have HH:=Lib.hid (show _/\_/\_/\_/\_/\_/\_/\_/\_ from⟨hid,hb,h0,h1,hn,hu,hl,h5,hF⟩);clear h h4 hm hG hD h5 hb h0 h1 hu hF;generalize hH:M.strs.length=n at*
 generalize hI:hs.length=nh at*
 have H1:=Lib.hid hH;have hd:=Lib.hid hI;clear hH hI;go_enter Tryz.func196,Tryz.ntmps196;go_upto_region 1 with fail;generalize w.setCell ⟨b,14,none⟩ (.int .i64 (id:Nat))=W1 at*
 go_quiet (fail);go_wp2_with (first
  |(go_at_call 57
    refine Calls.mono (H0.out _) ?_;rintro e w2 ⟨a1,a2,a3,a4,v,rfl,⟨A',n',c',rfl⟩,hJ⟩;have hK:=Lib.hid (show Below W1.heap.size W1 w2 from(bdN (Below.refl _ _) _).trans hJ);clear hJ)
  |fail)
 have he:=Lib.hid (hK.out.alloc hK.out.size (.cells #[.string a1,.string a2,.string a3,.string a4,.slice A' n' c'] 115));generalize w2.alloc (.cells #[.string a1,.string a2,.string a3,.string a4,.slice A' n' c'] 115)=W3 at*
 refine Calls.mono (opens_any W3 ow b _ L id (hX.out.below he.out) HH.out.2.1 HH.out.1 HH.out.2.2.1 HH.out.2.2.2.1 (H1.out▸HH.out.2.2.2.2.1)) ?_;rintro e w4 ⟨rfl,ow4,L4,hk,hf,ho,H2,hL,hM⟩;have h7:({id:=id,inw:=M.window,outw:=M.others}:Sv)∈M.strs++[({id:=id,inw:=M.window,outw:=M.others}:Sv)]:=by simp
 have hq:=hk.p.strs _ h7;have s2:w4.cell? ⟨(L4.s id).sb,2,none⟩=some (.int .i64 0):=hq.blk.cell 2;have sf:w4.frozen? ⟨(L4.s id).sb,2,none⟩=false:=hq.blk.frozen 2;have hh:=hk.strcell (s:={id:=id,inw:=M.window,outw:=M.others}) (s':={id:=id,other:=1,inw:=M.window,outw:=M.others}) h7 rfl 2 (.int .i64 1) rfl rfl rfl rfl;rw[updS_last (s:={id:=id,inw:=M.window,outw:=M.others}) (s':={id:=id,other:=1,inw:=M.window,outw:=M.others}) HH.out.2.1 rfl]at hh;have hN:=Lib.hid hh;have H9:=hZ.out;have Ha:=he.out.size;obtain⟨ad0,h9,hA⟩:∃ad,A=some ad/\ad.block<w.heap.size:=by
  obtain⟨ad,h1,h2,_⟩:=hj.out.2 0 _ (List.getElem?_eq_getElem (by rw[hd.out];exact ht));exact⟨ad,h1,h2⟩
 have h8:=HH.out.2.2.2.2.2.2.2.1 ad0 h9;have hO:Cm.RS hdrC 3 W3 w.heap.size A nh hs:=hj.out.below (he.out.mono (by omega));have hP:Cm.RS hdrC 3 w4 w.heap.size A nh hs:=hO.keep (by have:=hf.size;exact this) λad h1 h2 h3=>hM _ h3 (by rw[h9]at h1;injection h1 with h1;rw[<-h1,h8];decide);have hQ:Cm.RS hdrC 3 (w4.setCell ⟨(L4.s id).sb,2,none⟩ (.int .i64 1)) w.heap.size A nh hs:=hP.setCell (λad h1=>by rw[h9]at h1;injection h1 with h1;rw[ho,<-h1];simp only;omega) _;have hE:EvOk (w4.setCell ⟨(L4.s id).sb,2,none⟩ (.int .i64 1)) ow4 {kind:=1,stream:=id,fin:=fin,la:=A,lc:=c,l:=hs}:=
  ⟨⟨by show hs.length<=c;rw[hd.out];exact HH.out.2.2.2.2.2.2.1,by
     show Cm.RS hdrC 3 _ _ A hs.length hs;rw[hd.out];exact hQ.more (by have:=hf.size;simp[World.setCell];omega),λ_ ad h1=>by
     have h1:A=some ad:=h1;rw[h9]at h1;injection h1 with h1
     rw[<-h1,hL _ (by omega)];exact h8⟩,⟨Nat.le_refl _,rd_nil0 _ _,λh=>absurd h (Nat.lt_irrefl _)⟩⟩
 have HT:=tell_anyL _ ow4 b _ L4 {kind:=1,stream:=id,fin:=fin,la:=A,lc:=c,l:=hs} hh.1 hE HH.out.2.2.2.2.2.2.2.2;have hR:evC {kind:=1,stream:=id,fin:=fin,la:=A,lc:=c,l:=hs}= #[.int .i64 1,.int .i64 (id:Nat),.int .i64 0,.int .i64 0,.bool fin,.slice A nh c,.slice none 0 0]:=by simp only[evC,hd.out];rfl
 rw[hR]at HT;have HT:=Lib.hid HT;have H3:=Lib.hid hf;rw[ho]at s2 sf HT hN;clear hk hf H2 hL hM hh hq h7 hO hP hQ hE h8 hA h9 hR;rw[<-ho]at*
 have HQ:=Lib.hid (λ(L6:Lay) (h6:L6.s=L4.s)=>(show(L6.s id).sb=(L4.s id).sb by rw[h6]));generalize (L4.s id).sb=sb at*
 have hS:((M.strs++[({id:=id,other:=1,inw:=M.window,outw:=M.others}:Sv)]).map (·.id)).Nodup:=by
  rw[List.map_append,List.nodup_append];refine⟨HH.out.2.2.2.2.2.1,by simp,λa ha c hc=>?_⟩;obtain⟨x,hx,rfl⟩:=List.mem_map.1 ha;obtain rfl:c=id:=by simpa using hc
  exact HH.out.2.1 x hx
 have H4:=Lib.hid hS;clear hS;go_wp2_with (first
  |(go_at_call 109
    refine HT.out.mono ?_;rintro e w6 ⟨ow6,L6,rfl,hT,hU,hV⟩;have hi:=ends_any w6 ow6 b _ L6 {id:=id,other:=1,inw:=M.window,outw:=M.others} fin hT (by simp) (by simp) H4.out;have hW:(L6.s ({id:=id,other:=1,inw:=M.window,outw:=M.others}:Sv).id).sb=sb:=HQ.out L6 hV;rw[hW,updS_last (s:={id:=id,other:=1,inw:=M.window,outw:=M.others}) (s':=endS {id:=id,other:=1,inw:=M.window,outw:=M.others} fin) (by cases fin<;>exact HH.out.2.1) (by cases fin<;>rfl)]at hi;have hi:=Lib.hid hi;have H5:=Lib.hid hU;clear hT hU hV hW)
  |(go_at_call 193
    refine hi.out.mono ?_;intro e w7 hp;obtain rfl:=hp.ret;have H7:=Lib.hid hp;clear hp)
  |fail)
 go_end0;have hC:=H7.out.trans H5.out |>.trans hN.out.2 |>.trans H3.out |>.trans (Fr.below he.out ow) |>.trans hY.out
 exact hC
end Go.Proofs.YtkpppjhbmnfmkaaGreatDoor
end

section
namespace Go.Proofs.YtkpppjhbmnfmkaaGreatDoor
open Go.RowKit Go.Own Go.Own.Im Go.Own.Cx Go.Own.Hd
theorem hcells_flat (l:List HdrV):H6.hcells l=Cm.flat hdrC l:=by
 have e:(H6.hcell:HdrV->List Value)=λx=>(hdrC x).toList:=by funext x;rfl
 simp only[H6.hcells,Cm.flat,e]
theorem headOk_of {A:Option Addr} {c:Nat} {hs:List HdrV} {W:World} {e1 e2 e3:Addr} (he:H6.EnvH W e1 e2 e3) (hn:hs.length<=100) (hc:hs.length<=c) (hr:Cm.RS hdrC 3 W W.heap.size A hs.length hs) (hz:H6.Szs hs) (ho:(openS rules4 hs req0).isSome=true):HeadOk A hs.length c W:=by
 have h1:H6.Hr W A hs.length hs:=⟨rfl,λj u hu=>by
  rw[hcells_flat]at hu;exact hr.flatc (λ_=>rfl) j u hu⟩
 refine(H6.open_any A hs.length c hs W he (by omega) hc h1 hz).mono ?_;rintro e W' ⟨hb,h2|⟨rest,s,_,A',c',h3,_⟩⟩
 · rw[h2.1]at ho;cases ho
 · exact⟨_,_,_,_,_,h3,⟨_,_,_,rfl⟩,hb⟩
end Go.Proofs.YtkpppjhbmnfmkaaGreatDoor
end

section
namespace Go.Proofs.YtkpppjhbmnfmkaaGreatDoor
open Go.RowKit Go.Own Go.Own.Im Go.Own.Cx Go.Own.Fr Go.Own.Hd
def enE (e:EvV):EvV:={e with la:=none,lc:=0,ba:=none,bc:=0}
theorem hr_of {w:World} {B:Nat} {A:Option Addr} {hs:List HdrV} (hr:Cm.RS hdrC 3 w B A hs.length hs):H6.Hr w A hs.length hs:=⟨rfl,λj u hu=>by
 rw[hcells_flat]at hu;exact hr.flatc (λ_=>rfl) j u hu⟩
def EvRd (w:World) (x:EvV):Prop:=Cm.RS hdrC 3 w w.heap.size x.la x.l.length x.l/\Rd w w.heap.size x.ba x.by_.length x.by_
theorem EvRd.below {w w':World} {x:EvV} (h:EvRd w x) (hb:Below w.heap.size w w'):EvRd w' x:=⟨(h.1.below hb).more hb.size,(h.2.below hb).more hb.size⟩
end Go.Proofs.YtkpppjhbmnfmkaaGreatDoor
end

section
set_option maxHeartbeats 8000000
set_option maxRecDepth 100000
namespace Go.Proofs.YtkpppjhbmnfmkaaGreatDoor
open Lib (hid)
open Go.RowKit Go.Own Go.Own.Im Go.Own.Cx Go.Own.Fr Go.Own.Hd
theorem en_two {l1 l2:List EvV} (he:l1.map enE=l2.map enE) {k:Nat} {x:EvV} (hx:l1[k]?=some x):∃la lc ba bc,l2[k]?=some {x with la:=la,lc:=lc,ba:=ba,bc:=bc}:=by
 have h1:(l1.map enE)[k]?=some (enE x):=by rw[List.getElem?_map,hx];rfl
 rw[he,List.getElem?_map]at h1;obtain⟨y,hy,h0⟩:=Option.map_eq_some_iff.1 h1;refine⟨y.la,y.lc,y.ba,y.bc,?_⟩;rw[hy];obtain⟨a1,a2,a3,a4,a5,a6,a7,a8,a9,a10,a11⟩:=y;obtain⟨b1,b2,b3,b4,b5,b6,b7,b8,b9,b10,b11⟩:=x;simp only[enE,EvV.mk.injEq,true_and]at h0;obtain⟨rfl,rfl,rfl,rfl,rfl,rfl,rfl⟩:=h0
 rfl
theorem sameEvG (w:World) (A A2:Option Addr) (n c c2 B B2:Nat) (l l2:List EvV) (h1:Cm.RS evC 7 w B A n l) (h2:Cm.RS evC 7 w B2 A2 n l2) (hB:B<=w.heap.size) (hi:B2<=w.heap.size) (he:l.map enE=l2.map enE) (r1:∀x∈l,EvRd w x) (r2:∀x∈l2,EvRd w x) (hz:∀x∈l,x.l.length<=1000000000) (hn:n<=100000):
 Calls Tryz.prog 22 #[.slice A n c,.slice A2 n c2] w λe w'=>e= .returned (.bool true)/\Below w.heap.size w w':=by
 have H1:=hid h1;have H2:=hid h2;have hj:=hid (And.intro hB hi);have HE:=hid he;have hu:=hid r1;have hw:=hid r2;have HZ:=hid hz;have HN:=hid hn;clear h1 h2 hB hi he r1 r2 hz hn;go_enter Tryz.func22,Tryz.ntmps22;go_upto_region 4 with fail;go_loopw [5] (λiv wr=>∃k:Nat,iv= .int .i64 (k:Nat)/\k<=n/\Hid (Below w.heap.size w wr)) (λiv _=>n-(intOf iv).toNat)
 case atStart=>exact⟨0,rfl,Nat.zero_le _,hid (Below.refl _ _)⟩
 case round=>
  obtain⟨k,rfl,hk,hb⟩:=hrel;have HK:=hid hk;have HB:=hb;have hl:=hid ((H1.out.more hj.out.1).below HB.out);have hm:=hid ((H2.out.more hj.out.2).below HB.out);clear hb;by_cases h6:k<n
  · have hF:(k:Int)<(n:Int):=by omega
    have i0:(0:Int)<=(k:Int):=by omega
    obtain⟨ad,x,rfl,hx,_⟩:=hl.out.at2 h6;obtain⟨ad2,x2,rfl,h3,_⟩:=hm.out.at2 h6;obtain⟨p1',q1',p2',q2',ho⟩:=en_two HE.out hx;obtain rfl:=Option.some.inj (h3.symm.trans ho);obtain⟨a0,a1,a2,a3,a4,a5,a6⟩:=ev_all hl.out hx;obtain⟨b0,b1,b2,b3,b4,b5,b6⟩:=ev_all hm.out h3;have h4:=hu.out x (List.mem_of_getElem? hx);have h5:=hw.out _ (List.mem_of_getElem? h3);have h7:=HZ.out x (List.mem_of_getElem? hx);obtain⟨kd,st,co,la,fi,p1,q1,p2,q2,xl,xb⟩:=x;simp only at h4 h5 h7 a0 a1 a2 a3 a4 a5 a6 b0 b1 b2 b3 b4 b5 b6;have hq:wrap64 ((k:Int)+1)=((k+1:Nat):Int):=by have:=HN.out;unfold wrap64;omega
    have hA:=hid hq;have hC:=hid (λ(W:World) (hW:Below w.heap.size w W)=>H6.sameHeaders_yes p1 p1' xl.length q1 q1' xl W h7 (hr_of ((h4.below hW).1)) (hr_of ((h5.below hW).1)));have hD:=hid (λ(W:World) (hW:Below w.heap.size w W)=>(show Calls Tryz.prog 18 #[.slice p2 xb.length q2,.slice p2' xb.length q2'] W λe w'=>e= .returned (.bool true)/\w'=W from
     (sameBytes_any p2 p2' xb.length xb.length q2 q2' xb xb W W.heap.size W.heap.size (h4.below hW).2 (h5.below hW).2).mono λe w' h=>⟨by simpa using h.1,h.2.symm⟩))
    generalize xl.length=nl at*
    generalize xb.length=nb at*
    clear hk hx h3 ho hq h4 h5 h7;generalize (kd:Int)=kd at*
    generalize (st:Int)=st at*
    generalize (co:Int)=co at*
    generalize (la:Int)=la at*
    have HA:=hid (show _/\_/\_/\_/\_/\_/\_/\_/\_/\_/\_/\_ from⟨a0,a1,a2,a3,a4,a6,b0,b1,b2,b3,b4,b6⟩);clear a0 a1 a2 a3 a4 a6 b0 b1 b2 b3 b4 b6;have h0:=hid (And.intro a5 b5);have hd:=hid (show wr.drew.cell? ⟨(ad.add (k*7)).block,(ad.add (k*7)).off+5,none⟩=some (.slice p1 nl q1)/\wr.drew.cell? ⟨(ad2.add (k*7)).block,(ad2.add (k*7)).off+5,none⟩=some (.slice p1' nl q1')from⟨a5,b5⟩);have h8:=hid (show Below w.heap.size w wr.drew from bdN HB.out 1);go_wp2_with fail;go_region_held3 (λW'=>W'.cell? ⟨(ad.add (k*7)).block,(ad.add (k*7)).off+5,none⟩=some (.slice p1 nl q1)/\W'.cell? ⟨(ad2.add (k*7)).block,(ad2.add (k*7)).off+5,none⟩=some (.slice p1' nl q1')) (first|with_reducible exact h0.out|with_reducible exact hd.out|with_reducible exact hs.out|with_reducible exact hf.out) (first
     |(go_at_call 27
       with_reducible refine Calls.mono (hC.out _ h8.out) ?_
       rintro e w2 ⟨rfl,h9⟩;have ht:=hid (h8.out.trans (h9.mono h8.out.size));have hc:=hid (show Below wr.heap.size wr w2 from(bdN (Below.refl wr.heap.size wr) 1).trans h9);have hs:=hid (show w2.cell? ⟨(ad.add (k*7)).block,(ad.add (k*7)).off+5,none⟩=some (.slice p1 nl q1)/\w2.cell? ⟨(ad2.add (k*7)).block,(ad2.add (k*7)).off+5,none⟩=some (.slice p1' nl q1')from⟨(hc.out.cell (World.block_lt_of_cell? _ _ h0.out.1)).trans h0.out.1,(hc.out.cell (World.block_lt_of_cell? _ _ h0.out.2)).trans h0.out.2⟩);have hf:=hid (show w2.drew.cell? ⟨(ad.add (k*7)).block,(ad.add (k*7)).off+5,none⟩=some (.slice p1 nl q1)/\w2.drew.cell? ⟨(ad2.add (k*7)).block,(ad2.add (k*7)).off+5,none⟩=some (.slice p1' nl q1')from hs.out);clear h9)
     |fail)
    have key:∀p v,wr.cell? p=some v->w2.cell? p=some v:=λp v h=>(hc.out.cell (World.block_lt_of_cell? _ _ h)).trans h;obtain⟨a0,a1,a2,a3,a4,a6,b0,b1,b2,b3,b4,b6⟩:=HA.out
    replace a0:=key _ _ a0
    replace a1:=key _ _ a1
    replace a2:=key _ _ a2
    replace a3:=key _ _ a3
    replace a4:=key _ _ a4
    replace a6:=key _ _ a6
    replace b0:=key _ _ b0
    replace b1:=key _ _ b1
    replace b2:=key _ _ b2
    replace b3:=key _ _ b3
    replace b4:=key _ _ b4
    replace b6:=key _ _ b6
    have hh:=hid (λq=>hD.out (w2.drewN q) (bdN ht.out q));clear a5 b5 key;go_wp2_with fail;go_quiet ((go_at_call 18;exact Calls.quiet_of_same (hh.out _)));have e9:∀ad,w2.cell? ad=(w2.drewN nq).cell? ad:=λ_=>rfl;rw[e9]at a0 a1 a2 a3 a4 b0 b1 b2 b3 b4;clear a6 b6;have hE:=hid (bdN ht.out nq);clear e9;generalize w2.drewN nq=W2 at*
    go_wp2_with fail;go_quiet (fail);go_wp2_with fail;rw[hA.out];exact⟨⟨k+1,rfl,h6,hid (bdN hE.out _)⟩,by simp[intOf];omega⟩
  · obtain rfl:k=n:=by have:=HK.out;omega
    have hG:¬((k:Int)<(k:Int)):=by omega
    go_wp2;go_ret;exact⟨rfl,HB.out⟩
end Go.Proofs.YtkpppjhbmnfmkaaGreatDoor
end

section
set_option maxRecDepth 100000
namespace Go.Proofs.YtkpppjhbmnfmkaaGreatDoor
open Go.RowKit Go.Own Go.Own.Im Go.Own.Cx Go.Own.Fr
section
variable {w w':World} {ow ow':Nat->Tg} {b:Nat} {M:Cv} {L:Lay}
def dropM (M:Cv) (id:Nat):Cv:={M with strs:=M.strs.filter λs=>s.id != id}
theorem CN.drops (h:CN w ow b M L) {id:Nat} (hw:(Lit.int .i64 (id:Int)).wf=true) (h2:id∈M.strs.map (·.id)) (h3:(M.strs.map (·.id)).Nodup) (ty:TypeId):
 ∃w',(Builtin.delete_ #[74,3] ty #[.map (some L.mb),.int .i64 (id:Int)]).run Tryz.prog w= .ok (.tuple #[]) w'/\CN w' ow b (dropM M id) L/\Fr w ow w' ow/\w.grownBy w' (some L.mb):=by
 obtain⟨w',h0,hm,hg,hsz⟩:=h.p.map.drop Tryz.underlying74 Tryz.underlying3 hw h2 h3 ty;have k:=Kp.row h hg (t:=.map) (λg e=>by injection e with e;rw[<-e];exact h.p.tm);have h1:=h.blkK k (by decide);have e:(M.strs.map (·.id)).filter (λi=>i != id)=((dropM M id).strs).map (·.id):=by
  show _=(M.strs.filter λs=>s.id != id).map (·.id);rw[List.filter_map]
  rfl
 rw[e]at hm;refine⟨w',h0,⟨h1.1,h1.2,⟨h.p.fedK k (by decide),h.p.outK k (by decide),h.p.evK k (by decide) (by decide),(h.p.inwK k (by decide)).1,(h.p.inwK k (by decide)).2,(h.p.outwK k (by decide)).1,(h.p.outwK k (by decide)).2,
  hm,h.p.tm,λs hs=>h.p.strK k s (List.mem_filter.1 hs).1 (by intro j;simp),h.p.lstK k (by decide) (by decide),h.p.encK k (by decide),h.p.decK k (by decide)⟩,λg h4=>h.new g (by omega)⟩,Fr.grown hg (λg e=>by injection e with e;rw[<-e,h.p.tm];decide),hg⟩
end
section
variable {ops:Array Oper} {o:Oper} {a:Act} {Q:Exit->Act->World->Prop} {K:Act->World->Prop} {E:Prop} {w:World} {ow:Nat->Tg} {b:Nat} {M:Cv} {L:Lay}
theorem step_drops (h1:o.guard=none) (s x:Operand) (ho:o.op= .call {callee:=.builtin .delete,args:=#[s,x],argTypes:=#[74,3]}) (hs:a.eval s= .map (some L.mb)) {id:Nat} (hx:a.eval x= .int .i64 (id:Int))
 (h:CN w ow b M L) (hw:(Lit.int .i64 (id:Int)).wf=true) (h2:id∈M.strs.map (·.id)) (h3:(M.strs.map (·.id)).Nodup)
 (hK:∀w',CN w' ow b (dropM M id) L->Fr w ow w' ow->w.grownBy w' (some L.mb)->K (a.put o.dst (.tuple #[])) w'):
 if Region.wanted o (yielded ops a.tmps)=true then Oper.wp Tryz.prog o a w K Q else E:=by
 have h4:Region.wanted o (yielded ops a.tmps)=true:=by simp[Region.wanted,h1]
 rw[if_pos h4];obtain⟨w',h0,r1,r2,r3⟩:=h.drops hw h2 h3 o.type;unfold Oper.wp execOp;simp only[ho,resolve,invoke,builtin,Sem.run_bind,Sem.run_pure,Result.andThen_ok,List.map_toArray,List.map_cons,List.map_nil,hs,hx,h0];exact hK w' r1 r2 r3
end
end Go.Proofs.YtkpppjhbmnfmkaaGreatDoor
end

section
namespace Go.Proofs.YtkpppjhbmnfmkaaGreatDoor
open Go.RowKit Go.Own Go.Own.Im Go.Own.Cx Go.Own.Fr
theorem CN.othersAre {w:World} {ow:Nat->Tg} {b:Nat} {M:Cv} {L:Lay} (h:CN w ow b M L) (v:Int):CN (w.setCell ⟨b,11,none⟩ (.int .i64 v)) ow b {M with others:=v} L/\Fr w ow (w.setCell ⟨b,11,none⟩ (.int .i64 v)) ow:=h.cell 11 _ rfl h.p
end Go.Proofs.YtkpppjhbmnfmkaaGreatDoor
end

section
set_option maxHeartbeats 4000000
set_option maxRecDepth 100000
namespace Go.Proofs.YtkpppjhbmnfmkaaGreatDoor
open Go.RowKit Go.Own Go.Own.Im Go.Own.Cx Go.Own.Fr
attribute [local go_sem] Oper.semAt_some
def HeadBad (A:Option Addr) (n c:Nat) (W:World):Prop:=
 Calls Tryz.prog 57 #[.slice A n c] W λe W'=>∃a,e= .returned (.tuple #[.agg #[.string ⟨#[]⟩,.string ⟨#[]⟩,.string ⟨#[]⟩,.string ⟨#[]⟩,.slice none 0 0],.iface 327 (.pointer (some a))])/\Below W.heap.size W W'
theorem headBad_of {A:Option Addr} {c:Nat} {hs:List Hd.HdrV} {W:World} {e1 e2 e3:Addr} (he:H6.EnvH W e1 e2 e3) (hn:hs.length<=10000) (hc:hs.length<=c) (hr:Cm.RS hdrC 3 W W.heap.size A hs.length hs) (hz:H6.Szs hs) (ho:(Hd.openS Hd.rules4 hs Hd.req0)=none):HeadBad A hs.length c W:=by
 have h1:H6.Hr W A hs.length hs:=⟨rfl,λj u hu=>by
  rw[hcells_flat]at hu;exact hr.flatc (λ_=>rfl) j u hu⟩
 refine(H6.open_any A hs.length c hs W he (by omega) hc h1 hz).mono ?_;rintro e W' ⟨hb,h2|⟨rest,s,h2,_⟩⟩
 · exact⟨_,h2.2,hb⟩
 · rw[ho]at h2;cases h2
theorem headOk_of' {A:Option Addr} {c:Nat} {hs:List Hd.HdrV} {W:World} {e1 e2 e3:Addr} (he:H6.EnvH W e1 e2 e3) (hn:hs.length<=10000) (hc:hs.length<=c) (hr:Cm.RS hdrC 3 W W.heap.size A hs.length hs) (hz:H6.Szs hs) (ho:(Hd.openS Hd.rules4 hs Hd.req0).isSome=true):HeadOk A hs.length c W:=by
 have h1:H6.Hr W A hs.length hs:=⟨rfl,λj u hu=>by
  rw[hcells_flat]at hu;exact hr.flatc (λ_=>rfl) j u hu⟩
 refine(H6.open_any A hs.length c hs W he (by omega) hc h1 hz).mono ?_;rintro e W' ⟨hb,h2|⟨rest,s,_,A',c',h3,_⟩⟩
 · rw[h2.1]at ho;cases ho
 · exact⟨_,_,_,_,_,h3,⟨_,_,_,rfl⟩,hb⟩
theorem szs_of {hs:List Hd.HdrV} (h:hszs hs<=16384):H6.Szs hs:=λx hx=>by
 have:=hsize_le hx h;omega
theorem len_of {hs:List Hd.HdrV} (h:hszs hs<=16384):hs.length<=10000:=by
 have:=hszs_32 hs;omega
theorem opened_bad (w:World) (ow:Nat->Tg) (b:Nat) (M:Cv) (L:Lay) (id:Nat) (A:Option Addr) (c:Nat) (hs:List Hd.HdrV) (fin:Bool) (h:CN w ow b M L) (hid:id≠0/\id<=2147483647) (hm:(M.strs.length:Int)<M.cs) (hbye:M.bye=false) (ho:M.out.length<=1000000000) (hrs:Cm.RS hdrC 3 w w.heap.size A hs.length hs) (h1:0<hs.length->∀ad,A=some ad->ow ad.block= .evd)
 (h3:∀W,Fr w ow W ow->Cm.RS hdrC 3 W w.heap.size A hs.length hs->HeadBad A hs.length c W):
 Calls Tryz.prog 196 #[.pointer (some ⟨b,0,none⟩),.int .i64 (id:Nat),.slice A hs.length c,.bool fin] w (CPost w ow b {M with last:=id,out:=M.out++frameB 3 0 id (be 1 4)} (.tuple #[])):=by
 have hl:=h.last_ id;have h7:=Lib.hid hl.1;have h8:=Lib.hid hl.2;have c14:w.cell? ⟨b,14,none⟩=some (.int .i64 (M.last:Nat)):=h.blk.cell 14;have f14:=h.blk.frozen 14;have h2:=λty (n:Nat)=>(hl.1.drewN n).p.map.len Tryz.underlying74 ty;simp only[List.length_map]at h2;have k15:(w.setCell ⟨b,14,none⟩ (.int .i64 (id:Nat))).cell? ⟨b,15,none⟩=some (.map (some L.mb)):=hl.1.blk.cell 15;have k2:(w.setCell ⟨b,14,none⟩ (.int .i64 (id:Nat))).cell? ⟨b,2,none⟩=some (.int .i64 M.cs):=hl.1.blk.cell 2;have k17:(w.setCell ⟨b,14,none⟩ (.int .i64 (id:Nat))).cell? ⟨b,17,none⟩=some (.bool M.bye):=hl.1.blk.cell 17;rw[hbye]at k17;have hd:¬M.cs<=(M.strs.length:Int):=by omega
 have h9:=Lib.hid (show Cm.RS hdrC 3 (w.setCell ⟨b,14,none⟩ (.int .i64 (id:Nat))) w.heap.size A hs.length hs from by
  rcases Nat.eq_zero_or_pos hs.length with h0|h0
  · exact⟨rfl,λj x hx=>by have:=(List.getElem?_eq_some_iff.1 hx).1;omega⟩
  · exact hrs.setCell (λad e=>λe2=>by have:=h1 h0 ad e;rw[e2]at this;simp only at this;rw[h.tb]at this;cases this) _)
 have hb:=Lib.hid (λn=>h3 ((w.setCell ⟨b,14,none⟩ (.int .i64 (id:Nat))).drewN n) (hl.2.trans (Fr.drewN _ ow n)) (h9.out.keep (Nat.le_refl _) λ_ _ _ _=>rfl));have HH:=Lib.hid (And.intro hid ho);clear h hl h3 hm hid ho hrs h1;generalize hn:M.strs.length=n at*
 clear hn;generalize hc:hs.length=nh at*
 clear hc;go_enter Tryz.func196,Tryz.ntmps196;go_upto_region 1 with fail;generalize w.setCell ⟨b,14,none⟩ (.int .i64 (id:Nat))=W1 at*
 go_quiet (fail);go_wp2_with (first
  |(go_at_call 57
    refine Calls.mono (hb.out _) ?_;rintro e w2 ⟨a,rfl,h4⟩;have h5:=Lib.hid (show Below W1.heap.size W1 w2 from(bdN (Below.refl _ _) _).trans h4);clear h4)
  |fail)
 have h6:=Lib.hid (h5.out.alloc h5.out.size (.cells #[.string ⟨#[]⟩,.string ⟨#[]⟩,.string ⟨#[]⟩,.string ⟨#[]⟩,.slice none 0 0] 115));have HP:=put_any _ ow b _ L _ _ (h7.out.below h6.out) rfl (bld_reset _ id 1 HH.out.1.1 HH.out.1.2 (by omega)) HH.out.2;rw[infC_reset,flg_reset,pay_reset]at HP;refine HP.mono ?_;intro e w' hp;obtain rfl:=hp.ret;have HQ:=Lib.hid hp;clear hp HP;go_wp2;go_end0;exact HQ.out.trans (h8.out.trans (Fr.below h6.out ow))
end Go.Proofs.YtkpppjhbmnfmkaaGreatDoor
end
