/-
  
  
  
  
  
-/
import Derived.Test.YtkpppjhbmnfmkaaGreatDoorF3
import Derived.Test.YtkpppjhbmnfmkaaGreatDoorJad
import Derived.Test.YtkpppjhbmnfmkaaGreatDoorJaw
import Derived.Test.YtkpppjhbmnfmkaaGreatDoorJav
import Derived.Test.YtkpppjhbmnfmkaaGreatDoorJac
import Derived.BigQuiet
import Derived.Deep.RegionHeld3
import Derived.Test.YtkpppjhbmnfmkaaGreatDoorJab
set_option linter.unusedSimpArgs false
set_option linter.unusedVariables false
section
set_option maxHeartbeats 8000000
set_option maxRecDepth 100000
namespace Go.Proofs.YtkpppjhbmnfmkaaGreatDoor
open Go.RowKit Go.Own Go.Own.Im Go.Own.Cx Go.Own.Fr
attribute [local go_sem] Oper.semAt_some
def HeadOk (A:Option Addr) (n c:Nat) (W:World):Prop:=
 Calls Tryz.prog 57 #[.slice A n c] W λe W'=>∃a1 a2 a3 a4 v,e= .returned (.tuple #[.agg #[.string a1,.string a2,.string a3,.string a4,v],.nilIface])/\(∃A' n' c',v= .slice A' n' c')/\Below W.heap.size W W'
theorem opened_ok (w:World) (ow:Nat->Tg) (b:Nat) (M:Cv) (L:Lay) (id:Nat) (A:Option Addr) (c:Nat) (hs:List Hd.HdrV) (fin:Bool) (h:CN w ow b M L) (hid:id<=2147483647) (hb:∀s∈M.strs,s.id≠id) (hm:(M.strs.length:Int)<M.cs) (hbye:M.bye=false)
 (h0:0<=M.window/\M.window<=2147483647) (h1:0<=M.others/\M.others<=2147483647) (hn:M.strs.length<=1000000) (hu:(M.strs.map (·.id)).Nodup) (hl:hs.length<=c) (hD:Cm.RS hdrC 3 w w.heap.size A hs.length hs) (ht:0<hs.length) (h5:∀ad,A=some ad->ow ad.block= .evd) (hF:M.evs.length<=900000)
 (hG:∀W,Fr w ow W ow->Cm.RS hdrC 3 W w.heap.size A hs.length hs->HeadOk A hs.length c W):
 Calls Tryz.prog 196 #[.pointer (some ⟨b,0,none⟩),.int .i64 (id:Nat),.slice A hs.length c,.bool fin] w
  (CPost w ow b {M with last:=id,strs:=M.strs++[endS {id:=id,other:=1,inw:=M.window,outw:=M.others} fin],evs:=M.evs++[{kind:=1,stream:=id,fin:=fin,la:=A,lc:=c,l:=hs}]} (.tuple #[])):=by
 have h4:=h.last_ id;have hX:=Lib.hid h4.1;have hY:=Lib.hid h4.2;have c14:w.cell? ⟨b,14,none⟩=some (.int .i64 (M.last:Nat)):=h.blk.cell 14;have f14:=h.blk.frozen 14;have hw:=λty (n:Nat)=>(h4.1.drewN n).p.map.len Tryz.underlying74 ty;simp only[List.length_map]at hw;have k15:(w.setCell ⟨b,14,none⟩ (.int .i64 (id:Nat))).cell? ⟨b,15,none⟩=some (.map (some L.mb)):=h4.1.blk.cell 15;have k2:(w.setCell ⟨b,14,none⟩ (.int .i64 (id:Nat))).cell? ⟨b,2,none⟩=some (.int .i64 M.cs):=h4.1.blk.cell 2;have k17:(w.setCell ⟨b,14,none⟩ (.int .i64 (id:Nat))).cell? ⟨b,17,none⟩=some (.bool M.bye):=h4.1.blk.cell 17;rw[hbye]at k17;have H8:¬M.cs<=(M.strs.length:Int):=by omega
 have hj:=Lib.hid (show Cm.RS hdrC 3 (w.setCell ⟨b,14,none⟩ (.int .i64 (id:Nat))) w.heap.size A hs.length hs from hD.setCell (λad e=>λe2=>by have:=h5 ad e;rw[e2]at this;simp only at this;rw[h.tb]at this;cases this) _);have hZ:=Lib.hid (show(w.setCell ⟨b,14,none⟩ (.int .i64 (id:Nat))).heap.size=w.heap.size by simp[World.setCell]);have H0:=Lib.hid (λn=>hG ((w.setCell ⟨b,14,none⟩ (.int .i64 (id:Nat))).drewN n) (h4.2.trans (Fr.drewN _ ow n)) (hj.out.keep (Nat.le_refl _) λ_ _ _ _=>rfl));have HH:=Lib.hid (show _/\_/\_/\_/\_/\_/\_/\_/\_ from⟨hid,hb,h0,h1,hn,hu,hl,h5,hF⟩);clear h h4 hm hG hD h5 hb h0 h1 hu hF;generalize hH:M.strs.length=n at*
 generalize hI:hs.length=nh at*
 have H1:=Lib.hid hH;have hd:=Lib.hid hI;clear hH hI;go_enter Tryz.func196,Tryz.ntmps196;go_upto_region 1 with fail;generalize w.setCell ⟨b,14,none⟩ (.int .i64 (id:Nat))=W1 at*
 go_quiet (fail);go_wp2_with (first
  |(go_at_call 57
    refine Calls.mono (H0.out _) ?_;rintro e w2 ⟨a1,a2,a3,a4,v,rfl,⟨A',n',c',rfl⟩,hJ⟩;have hK:=Lib.hid (show Below W1.heap.size W1 w2 from(bdN (Below.refl _ _) _).trans hJ);clear hJ)
  |fail)
 have he:=Lib.hid (hK.out.alloc hK.out.size (.cells #[.string a1,.string a2,.string a3,.string a4,.slice A' n' c'] 115));generalize w2.alloc (.cells #[.string a1,.string a2,.string a3,.string a4,.slice A' n' c'] 115)=W3 at*
 refine Calls.mono (opens_any W3 ow b _ L id (hX.out.below he.out) HH.out.2.1 HH.out.1 HH.out.2.2.1 HH.out.2.2.2.1 (H1.out▸HH.out.2.2.2.2.1)) ?_;rintro e w4 ⟨rfl,ow4,L4,hk,hf,ho,H2,hL,hM⟩;have h7:({id:=id,inw:=M.window,outw:=M.others}:Sv)∈M.strs++[({id:=id,inw:=M.window,outw:=M.others}:Sv)]:=by simp
 have hq:=hk.p.strs _ h7;have s2:w4.cell? ⟨(L4.s id).sb,2,none⟩=some (.int .i64 0):=hq.blk.cell 2;have sf:w4.frozen? ⟨(L4.s id).sb,2,none⟩=false:=hq.blk.frozen 2;have hh:=hk.strcell (s:={id:=id,inw:=M.window,outw:=M.others}) (s':={id:=id,other:=1,inw:=M.window,outw:=M.others}) h7 rfl 2 (.int .i64 1) rfl rfl rfl rfl;rw[updS_last (s:={id:=id,inw:=M.window,outw:=M.others}) (s':={id:=id,other:=1,inw:=M.window,outw:=M.others}) HH.out.2.1 rfl]at hh;have hN:=Lib.hid hh;have H9:=hZ.out;have Ha:=he.out.size;obtain⟨ad0,h9,hA⟩:∃ad,A=some ad/\ad.block<w.heap.size:=by
  obtain⟨ad,h1,h2,_⟩:=hj.out.2 0 _ (List.getElem?_eq_getElem (by rw[hd.out];exact ht));exact⟨ad,h1,h2⟩
 have h8:=HH.out.2.2.2.2.2.2.2.1 ad0 h9;have hO:Cm.RS hdrC 3 W3 w.heap.size A nh hs:=hj.out.below (he.out.mono (by omega));have hP:Cm.RS hdrC 3 w4 w.heap.size A nh hs:=hO.keep (by have:=hf.size;exact this) λad h1 h2 h3=>hM _ h3 (by rw[h9]at h1;injection h1 with h1;rw[<-h1,h8];decide);have hQ:Cm.RS hdrC 3 (w4.setCell ⟨(L4.s id).sb,2,none⟩ (.int .i64 1)) w.heap.size A nh hs:=hP.setCell (λad h1=>by rw[h9]at h1;injection h1 with h1;rw[ho,<-h1];simp only;omega) _;have hE:EvOk (w4.setCell ⟨(L4.s id).sb,2,none⟩ (.int .i64 1)) ow4 {kind:=1,stream:=id,fin:=fin,la:=A,lc:=c,l:=hs}:=
  ⟨⟨by show hs.length<=c;rw[hd.out];exact HH.out.2.2.2.2.2.2.1,by
     show Cm.RS hdrC 3 _ _ A hs.length hs;rw[hd.out];exact hQ.more (by have:=hf.size;simp[World.setCell];omega),λ_ ad h1=>by
     have h1:A=some ad:=h1;rw[h9]at h1;injection h1 with h1
     rw[<-h1,hL _ (by omega)];exact h8⟩,⟨Nat.le_refl _,rd_nil0 _ _,λh=>absurd h (Nat.lt_irrefl _)⟩⟩
 have HT:=tell_anyL _ ow4 b _ L4 {kind:=1,stream:=id,fin:=fin,la:=A,lc:=c,l:=hs} hh.1 hE HH.out.2.2.2.2.2.2.2.2;have hR:evC {kind:=1,stream:=id,fin:=fin,la:=A,lc:=c,l:=hs}= #[.int .i64 1,.int .i64 (id:Nat),.int .i64 0,.int .i64 0,.bool fin,.slice A nh c,.slice none 0 0]:=by simp only[evC,hd.out];rfl
 rw[hR]at HT;have HT:=Lib.hid HT;have H3:=Lib.hid hf;rw[ho]at s2 sf HT hN;clear hk hf H2 hL hM hh hq h7 hO hP hQ hE h8 hA h9 hR;rw[<-ho]at*
 have HQ:=Lib.hid (λ(L6:Lay) (h6:L6.s=L4.s)=>(show(L6.s id).sb=(L4.s id).sb by rw[h6]));generalize (L4.s id).sb=sb at*
 have hS:((M.strs++[({id:=id,other:=1,inw:=M.window,outw:=M.others}:Sv)]).map (·.id)).Nodup:=by
  rw[List.map_append,List.nodup_append];refine⟨HH.out.2.2.2.2.2.1,by simp,λa ha c hc=>?_⟩;obtain⟨x,hx,rfl⟩:=List.mem_map.1 ha;obtain rfl:c=id:=by simpa using hc
  exact HH.out.2.1 x hx
 have H4:=Lib.hid hS;clear hS;go_wp2_with (first
  |(go_at_call 109
    refine HT.out.mono ?_;rintro e w6 ⟨ow6,L6,rfl,hT,hU,hV⟩;have hi:=ends_any w6 ow6 b _ L6 {id:=id,other:=1,inw:=M.window,outw:=M.others} fin hT (by simp) (by simp) H4.out;have hW:(L6.s ({id:=id,other:=1,inw:=M.window,outw:=M.others}:Sv).id).sb=sb:=HQ.out L6 hV;rw[hW,updS_last (s:={id:=id,other:=1,inw:=M.window,outw:=M.others}) (s':=endS {id:=id,other:=1,inw:=M.window,outw:=M.others} fin) (by cases fin<;>exact HH.out.2.1) (by cases fin<;>rfl)]at hi;have hi:=Lib.hid hi;have H5:=Lib.hid hU;clear hT hU hV hW)
  |(go_at_call 193
    refine hi.out.mono ?_;intro e w7 hp;obtain rfl:=hp.ret;have H7:=Lib.hid hp;clear hp)
  |fail)
 go_end0;have hC:=H7.out.trans H5.out |>.trans hN.out.2 |>.trans H3.out |>.trans (Fr.below he.out ow) |>.trans hY.out
 exact hC
end Go.Proofs.YtkpppjhbmnfmkaaGreatDoor
end

section
namespace Go.Proofs.YtkpppjhbmnfmkaaGreatDoor
open Go.RowKit Go.Own Go.Own.Im Go.Own.Cx Go.Own.Hd
theorem hcells_flat (l:List HdrV):H6.hcells l=Cm.flat hdrC l:=by
 have e:(H6.hcell:HdrV->List Value)=λx=>(hdrC x).toList:=by funext x;rfl
 simp only[H6.hcells,Cm.flat,e]
theorem headOk_of {A:Option Addr} {c:Nat} {hs:List HdrV} {W:World} {e1 e2 e3:Addr} (he:H6.EnvH W e1 e2 e3) (hn:hs.length<=100) (hc:hs.length<=c) (hr:Cm.RS hdrC 3 W W.heap.size A hs.length hs) (hz:H6.Szs hs) (ho:(openS rules4 hs req0).isSome=true):HeadOk A hs.length c W:=by
 have h1:H6.Hr W A hs.length hs:=⟨rfl,λj u hu=>by
  rw[hcells_flat]at hu;exact hr.flatc (λ_=>rfl) j u hu⟩
 refine(H6.open_any A hs.length c hs W he (by omega) hc h1 hz).mono ?_;rintro e W' ⟨hb,h2|⟨rest,s,_,A',c',h3,_⟩⟩
 · rw[h2.1]at ho;cases ho
 · exact⟨_,_,_,_,_,h3,⟨_,_,_,rfl⟩,hb⟩
end Go.Proofs.YtkpppjhbmnfmkaaGreatDoor
end

section
namespace Go.Proofs.YtkpppjhbmnfmkaaGreatDoor
open Go.RowKit Go.Own Go.Own.Im Go.Own.Cx Go.Own.Fr
attribute [local go_sem] Oper.semAt_some
theorem headOk_of' {A:Option Addr} {c:Nat} {hs:List Hd.HdrV} {W:World} {e1 e2 e3:Addr} (he:H6.EnvH W e1 e2 e3) (hn:hs.length<=10000) (hc:hs.length<=c) (hr:Cm.RS hdrC 3 W W.heap.size A hs.length hs) (hz:H6.Szs hs) (ho:(Hd.openS Hd.rules4 hs Hd.req0).isSome=true):HeadOk A hs.length c W:=by
 have h1:H6.Hr W A hs.length hs:=⟨rfl,λj u hu=>by
  rw[hcells_flat]at hu;exact hr.flatc (λ_=>rfl) j u hu⟩
 refine(H6.open_any A hs.length c hs W he (by omega) hc h1 hz).mono ?_;rintro e W' ⟨hb,h2|⟨rest,s,_,A',c',h3,_⟩⟩
 · rw[h2.1]at ho;cases ho
 · exact⟨_,_,_,_,_,h3,⟨_,_,_,rfl⟩,hb⟩
theorem szs_of {hs:List Hd.HdrV} (h:hszs hs<=16384):H6.Szs hs:=λx hx=>by
 have:=hsize_le hx h;omega
theorem len_of {hs:List Hd.HdrV} (h:hszs hs<=16384):hs.length<=10000:=by
 have:=hszs_32 hs;omega
end Go.Proofs.YtkpppjhbmnfmkaaGreatDoor
end

section
set_option maxHeartbeats 8000000
set_option maxRecDepth 100000
namespace Go.Own.Hk
open Lib (hid)
open Go.Own
theorem encP_app1:∀(l:List Hd.HdrV) (t:TM) (x:Hd.HdrV),encP t (l++[x])=((encP t l).1++(encOne (encP t l).2 x).1,(encOne (encP t l).2 x).2)
 |[],t,x=>by simp[encP]
 |h::l,t,x=>by rw[List.cons_append,encP,encP_app1 l _ x,encP,List.append_assoc]
theorem add_most (t:TM) (h:Hd.HdrV):(t.add h).most=t.most:=by unfold TM.add;split<;>rfl
end Go.Own.Hk
namespace Go.Proofs.YtkpppjhbmnfmkaaGreatDoor
open Lib (hid)
open Go.RowKit Go.Own Go.Own.Cx Go.Own.Fr
attribute [local go_sem] Oper.semAt_some
theorem ow_bar {X:Nat->Prop} {B base n:Nat} {w w':World} {v:Value} {l:List UInt8} (h:Ow w base 5 v n l) (hb:Bar X B w w') (hv:∀g,v.ownBlock=some g->g<B/\¬X g):Ow w' base 5 v n l:=by
 rcases h.2 with⟨rfl,rfl⟩|⟨g,cap,cur,rfl,h0,hh,hn,hm,hs,ht⟩
 · exact⟨h.1,.inl ⟨rfl,rfl⟩⟩
 · exact⟨h.1,.inr ⟨g,cap,cur,rfl,h0,(hb.block g (hv g rfl).1 (hv g rfl).2).trans hh,hn,hm,hs,ht⟩⟩
structure EnA (w wr:World) (e tb r least:Nat) (t:Hk.TM) (v:Value) (out:List UInt8):Prop where
 enc:Blk wr e 135 #[.pointer (some ⟨tb,0,none⟩),.int .i64 (least:Nat),.bool false]
 tab:TabR wr tb r t.E t.most
 mo:t.most<=4096
 own:Ow wr w.heap.size 5 v out.length out
 lt:e<w.heap.size/\tb<w.heap.size/\r<w.heap.size
 ne:¬TX tb r e
 bar:Bar (TX tb r) w.heap.size w wr
section
variable {w wr w':World} {e tb r least:Nat} {t:Hk.TM} {v v':Value} {out p:List UInt8}
theorem EnA.below (h:EnA w wr e tb r least t v out) (hb:Below wr.heap.size wr w'):EnA w w' e tb r least t v out:=
 ⟨h.enc.below hb h.enc.lt,h.tab.below hb h.tab.lt.1 h.tab.lt.2,h.mo,h.own.below hb (λg hg=>(h.own.lt hg).1),h.lt,h.ne,h.bar.trans (Bar.of (hb.mono h.bar.size) _)⟩
theorem EnA.puts (h:EnA w wr e tb r least t v out) (ho:Ow w' wr.heap.size 5 v' p.length p) (hb:Below wr.heap.size wr w'):EnA w w' e tb r least t v' p:=
 ⟨h.enc.below hb h.enc.lt,h.tab.below hb h.tab.lt.1 h.tab.lt.2,h.mo,ho.base h.bar.size,h.lt,h.ne,h.bar.trans (Bar.of (hb.mono h.bar.size) _)⟩
theorem EnA.adds (h:EnA w wr e tb r least t v out) (x:Hd.HdrV) (ht:TabR w' tb r (Hk.TM.add ⟨t.E,t.most⟩ x).E t.most) (hb:Bar (λj=>j=tb\/j=r) wr.heap.size wr w'):EnA w w' e tb r least (t.add x) v out:=
 ⟨hb.blk h.enc h.enc.lt h.ne,by rw[Hk.add_most];exact ht,by rw[Hk.add_most];exact h.mo,ow_bar h.own hb (λg hg=>by
   have:=h.own.lt hg;have h3:=h.lt;refine⟨this.1,λk=>?_⟩;rcases k with k|k<;>omega),h.lt,h.ne,h.bar.trans (hb.mono h.bar.size)⟩
end
def EnAI (w:World) (e tb r least:Nat) (t:Hk.TM) (hs:List Hd.HdrV) (n:Nat) (bv iv:Value) (wr:World):Prop:=∃j:Nat,iv= .int .i64 (j:Nat)/\j<=n/\EnA w wr e tb r least (Hk.encP t (hs.take j)).2 bv (Hk.encP t (hs.take j)).1
def EncPost (e tb r least:Nat) (t:Hk.TM) (hs:List Hd.HdrV) (w:World) (q:Ending) (w':World):Prop:=∃v,q= .returned v/\EnA w w' e tb r least (Hk.encP t hs).2 v (Hk.encP t hs).1
theorem tmost_any (w:World) (g r:Nat) (E:List Hd.HdrV) (mo:Nat) (ht:TabR w g r E mo):Calls Tryz.prog 139 #[.pointer (some ⟨g,0,none⟩)] w λe w'=>e= .returned (.int .i64 (mo:Nat))/\Below w.heap.size w w':=by
 obtain⟨old,cs,h1,_⟩:=ht;have c4:w.cell? ⟨g,4,none⟩=some (.int .i64 (mo:Nat)):=h1.cell 4;clear h1;go_enter Tryz.func139,Tryz.ntmps139;go_wp2;go_ret;exact⟨rfl,Below.refl _ _⟩
theorem sizes_no (w:World) (e tb least:Nat) (h:Blk w e 135 #[.pointer (some ⟨tb,0,none⟩),.int .i64 (least:Nat),.bool false]):Calls Tryz.prog 136 #[.pointer (some ⟨e,0,none⟩)] w λr w'=>r= .returned (.slice none 0 0)/\Below w.heap.size w w':=by
 have c2:w.cell? ⟨e,2,none⟩=some (.bool false):=h.cell 2;have f2:=h.frozen 2;have HB:=hid (show Below w.heap.size w (w.setCell ⟨e,2,none⟩ (.bool false))from⟨rfl,rfl,rfl,by simp[World.setCell],λk _=>by
  by_cases e':k=e
  · subst e'
    have h1:=h.put 2 (.bool false);exact h1.trans h.symm
  · exact Below.heap_setCell w _ _ k e'⟩)
 clear h;go_enter Tryz.func136,Tryz.ntmps136;go_wp2;go_ret;exact⟨rfl,HB.out⟩
theorem hr_ofA {A:Option Addr} {w:World} {B:Nat} {hs:List Hd.HdrV} (hr:Cm.RS hdrC 3 w B A hs.length hs):H6.Hr w A hs.length hs:=⟨rfl,λj u hu=>by
 rw[hcells_flat]at hu;exact hr.flatc (λ_=>rfl) j u hu⟩
theorem en_w (j:Nat) (h:j<=1000000):wrap64 ((j:Int)+1)=((j+1:Nat):Int):=by unfold wrap64;omega
theorem encA_any (w:World) (e tb r least:Nat) (t:Hk.TM) (A:Option Addr) (c:Nat) (hs:List Hd.HdrV) (h:Blk w e 135 #[.pointer (some ⟨tb,0,none⟩),.int .i64 (least:Nat),.bool false]) (ht:TabR w tb r t.E t.most) (HK:t.most<=4096) (hne:¬TX tb r e) (hE:HpE w) (Hu:∀g,g<20->¬TX tb r g)
 (hr:Cm.RS hdrC 3 w w.heap.size A hs.length hs) (hA:∀ad,A=some ad->¬TX tb r ad.block) (hz:hszs hs<=1000000):
 Calls Tryz.prog 96 #[.pointer (some ⟨e,0,none⟩),.slice A hs.length c] w (EncPost e tb r least t hs w):=by
 have hZ:=ht.lt;have Hy:=h.lt;have g1:=hid (λW (hb:Bar (TX tb r) w.heap.size w W)=>hE.keep hb.size (λg hg=>hb.block g (Nat.lt_of_lt_of_le hg hE.room) (Hu g hg)));have g2:=hid (λW (hb:Bar (TX tb r) w.heap.size w W)=>(hr.keep hb.size (λad ha HB H2=>hb.block _ H2 (hA ad ha))));have HS:=hid (sizes_no w e tb least h);have HZ:=hid hz;have g3:=hid (λW (hb:Below w.heap.size w W)=>show EnA w W e tb r least t (.slice none 0 0) []from⟨h.below hb Hy,ht.below hb hZ.1 hZ.2,HK,⟨rfl,.inl ⟨rfl,rfl⟩⟩,⟨Hy,hZ.1,hZ.2⟩,hne,Bar.of hb _⟩);obtain⟨n,hn⟩:∃n,hs.length=n:=⟨_,rfl⟩;have HO:n<=100000:=by have h1:hs.length*32<=hszs hs:=Hk.hz_ge hs;omega
 rw[hn];have HN:=hid hn;have g4:=hid HO;clear h ht HK hne hE Hu hr hA hz hZ Hy hn HO;go_enter Tryz.func96,Tryz.ntmps96;go_wp2_with fail;refine HS.out.mono ?_;rintro q w1 ⟨rfl,HB⟩;have g5:=hid HB;clear HB;go_upto_region 3 with fail;go_loopw [5,14] (λbv iv wr=>Hid (EnAI w e tb r least t hs n bv iv wr)) (λ_ iv _=>n-(intOf iv).toNat)
 case atStart=>exact⟨0,rfl,Nat.zero_le _,g3.out _ g5.out⟩
 case round=>
  obtain⟨j,rfl,HR,hf⟩:=hrel;have HF:=hid hf;by_cases hZ:j<n
  · have gb:(j:Int)<(n:Int):=by omega
    have Hv:j<hs.length:=by rw[HN.out];exact hZ
    obtain⟨x,hx⟩:∃x,hs[j]?=some x:=⟨_,List.getElem?_eq_getElem Hv⟩;have hH:=hr_ofA (g2.out wr hf.bar);obtain⟨ad,hA,a0,a1,a2⟩:=hH.at_ (k:=j) Hv;have HT:hs.getD j ⟨⟨#[]⟩,⟨#[]⟩,false⟩=x:=by rw[List.getD,hx];rfl
    rw[HT]at a0 a1 a2;subst hA;have HU:=hsize_le (List.mem_of_getElem? hx) HZ.out;have HV:hs.take (j+1)=hs.take j++[x]:=by rw[List.take_succ_eq_append_getElem Hv,(List.getElem?_eq_some_iff.1 hx).2]
    have HC:=Hk.encP_app1 (hs.take j) t x;rw[<-HV]at HC;have g6:=Hk.encP_len t (hs.take j);have g7:Hk.hzs (hs.take j)<=1000000:=Nat.le_trans (by
     have e:hs=hs.take j++hs.drop j:=(List.take_append_drop _ _).symm
     conv=>rhs;rw[e]
     rw[Hk.hzs_append];omega) (show Hk.hzs hs<=1000000 from HZ.out)
    have i0:(0:Int)<=(j:Int):=by omega
    have ej:=en_w j (by have:=g4.out;omega);have hw:=hid (show j+1<=n/\n-(j+1)<n-j from⟨by omega,by omega⟩);have hC:=hid (show(Hk.encP t (hs.take j)).1.length<=1000000 by omega);have hD:=hid (λ(v:Value) (W:World) (t2:Hk.TM) (q:List UInt8) (h2:Hk.encOne (Hk.encP t (hs.take j)).2 x=(q,t2)) (h1:EnA w W e tb r least t2 v ((Hk.encP t (hs.take j)).1++q))=>
     (show EnAI w e tb r least t hs n v (.int .i64 ((j+1:Nat):Int)) W from⟨j+1,rfl,hw.out.1,by
       rw[HC,h2];exact h1⟩))
    clear hH HT Hv hZ g6 g7 HR HV HC hf hx;generalize Hk.encP t (hs.take j)=po at*
    obtain⟨out,E1,mo⟩:=po;simp only at HF hD hC;obtain⟨A1,c1,g8,_,_,HG⟩:=HF.out.own.form;subst g8;clear HG;obtain⟨xn,xv,xb⟩:=x;simp only at a0 a1 a2 HU;have hh:=hid (show xn.size<=1000000/\xv.size<=1000000 from⟨by omega,by omega⟩);clear HU;go_upto_region 5 with fail;have HX:=hid (Blk.new wr 63 #[.string xn,.string xv,.bool xb]);have Hi:=hid (HF.out.below ((Below.refl wr.heap.size wr).alloc (Nat.le_refl _) (.cells #[.string xn,.string xv,.bool xb] 63)));obtain⟨gh,HD⟩:∃g,wr.heap.size=g:=⟨_,rfl⟩;have HW:=hid (show w.heap.size<=gh by rw[<-HD];exact HF.out.bar.size);rw[HD]at HX ⊢;clear HD a0 a1 a2 HF;generalize wr.alloc (.cells #[.string xn,.string xv,.bool xb] 63)=W1 at*
    have Hx:=hid (find_any W1.drew tb r E1 mo xn xv (Hi.out.below (Below.refl _ _).drew).tab (g1.out _ (Hi.out.below (Below.refl _ _).drew).bar));have HY:=hid (show W1.cell? ⟨e,0,none⟩=some (.pointer (some ⟨tb,0,none⟩))/\W1.cell? ⟨gh,0,none⟩=some (.string xn)/\W1.cell? ⟨gh,1,none⟩=some (.string xv)from⟨Hi.out.enc.cell 0,HX.out.cell 0,HX.out.cell 1⟩);have HH:=hid (show W1.drew.cell? ⟨e,0,none⟩=some (.pointer (some ⟨tb,0,none⟩))/\W1.drew.cell? ⟨gh,0,none⟩=some (.string xn)/\W1.drew.cell? ⟨gh,1,none⟩=some (.string xv)from HY.out);obtain⟨⟨fi,fb⟩,HE⟩:∃p,Hk.TM.find ⟨E1,mo⟩ xn xv=p:=⟨_,rfl⟩;unfold FindPost at Hx;rw[HE]at Hx;simp only at Hx;have hY:=hid (show Hk.TM.find ⟨E1,mo⟩ xn xv=(fi,fb)from HE);have hfl:=Hk.find_lt ⟨E1,mo⟩ xn xv;rw[hY.out]at hfl;have H0:=hid (show fi<=1000 by
     have h1:=alls_len E1 mo;have h2:E1.length*32<=hszs E1:=Hk.hz_ge E1;obtain⟨_,_,_,_,_,h4⟩:=Hi.out.tab;have h5:fi<=(Hk.TM.all ⟨E1,mo⟩).length:=hfl;have h6:hszs E1<=4096:=h4;omega)
    have g9:=hid (show fb=true->fi≠0 fromλhb=>by
     have h1:=hY.out;have h2:=Hk.find_whole (t:=⟨E1,mo⟩) (n:=xn) (v:=xv) (by rw[h1];exact hb);obtain⟨_,_,_,_,h6⟩:=h2;rw[h1]at h6;show fi≠0;have h7:1<=fi:=h6;omega)
    clear HE hfl;go_region_held3 (λW'=>W'.cell? ⟨e,0,none⟩=some (.pointer (some ⟨tb,0,none⟩))/\W'.cell? ⟨gh,0,none⟩=some (.string xn)/\W'.cell? ⟨gh,1,none⟩=some (.string xv)) (first|with_reducible exact HY.out|with_reducible exact HH.out|with_reducible exact g0.out|with_reducible exact HI.out) (first
     |(go_at_call 137
       with_reducible refine Calls.mono Hx.out ?_
       rintro q w2 ⟨rfl,H2⟩;have H2:Below W1.heap.size W1 w2:=below_of_drew H2;have hm:=hid (Hi.out.below H2);have h8:=hid (HX.out.below H2 HX.out.lt);have g0:=hid (show w2.cell? ⟨e,0,none⟩=some (.pointer (some ⟨tb,0,none⟩))/\w2.cell? ⟨gh,0,none⟩=some (.string xn)/\w2.cell? ⟨gh,1,none⟩=some (.string xv)from⟨hm.out.enc.cell 0,h8.out.cell 0,h8.out.cell 1⟩);have HI:=hid (show w2.drew.cell? ⟨e,0,none⟩=some (.pointer (some ⟨tb,0,none⟩))/\w2.drew.cell? ⟨gh,0,none⟩=some (.string xn)/\w2.drew.cell? ⟨gh,1,none⟩=some (.string xv)from g0.out);clear H2)
     |fail)
    cases fb
    · cases xb
      · by_cases hS:mo<xn.size+xv.size+32
        · by_cases hl:fi=0
          · have h2:w2.cell? ⟨gh,2,none⟩=some (.bool false):=h8.out.cell 2
            obtain rfl:fi=0:=hl;obtain⟨o3,h0⟩:∃o,out++Hk.putI 0 4 0=o:=⟨_,rfl⟩;have hT:=hid (λW (hb:Below w2.heap.size w2 W)=>(show Calls Tryz.prog 135 #[.agg #[.string xn,.string xv,.bool false]] W λq w'=>q= .returned (.int .i64 ((xn.size+xv.size+32:Nat):Int))/\Below w2.heap.size w2 w' from(hsize_any xn xv false W hh.out.1 hh.out.2).mono λq w' ⟨h1,h3⟩=>⟨h1,by rw[h3];exact hb.alloc hb.size _⟩));have H3:=hid (λW (hb:Below w2.heap.size w2 W)=>(tmost_any W tb r E1 mo (hm.out.below hb).tab).mono λq w' (h:_/\_)=>(show q= .returned (.int .i64 (mo:Nat))/\Below w2.heap.size w2 w' from⟨h.1,hb.trans (h.2.mono hb.size)⟩));have HQ:=hid (λW (hb:Below w2.heap.size w2 W)=>(show W.cell? ⟨e,0,none⟩=some (.pointer (some ⟨tb,0,none⟩))/\W.cell? ⟨gh,0,none⟩=some (.string xn)/\W.cell? ⟨gh,1,none⟩=some (.string xv)/\W.cell? ⟨gh,2,none⟩=some (.bool false)from⟨(hm.out.below hb).enc.cell 0,(h8.out.below hb h8.out.lt).cell 0,(h8.out.below hb h8.out.lt).cell 1,(h8.out.below hb h8.out.lt).cell 2⟩));have hK:=hid (HQ.out w2.drew (bdN (Below.refl _ _) 1));have H4:=hid (HQ.out w2 (Below.refl _ _));generalize hU:xn.size+xv.size+32=sv at hT hS;have H5:=hid hU;have Hc:((mo:Int)<(sv:Int)):=by omega
            have H7:=hid hS;clear hU hS;go_wp2_with fail;go_region_held3 (λW'=>W'.cell? ⟨e,0,none⟩=some (.pointer (some ⟨tb,0,none⟩))/\W'.cell? ⟨gh,0,none⟩=some (.string xn)/\W'.cell? ⟨gh,1,none⟩=some (.string xv)/\W'.cell? ⟨gh,2,none⟩=some (.bool false)) (first|with_reducible exact H4.out|with_reducible exact hK.out|with_reducible exact H8.out|with_reducible exact hL.out|with_reducible exact H9.out|with_reducible exact hM.out) (first
             |(go_at_call 135
               with_reducible refine Calls.mono (hT.out _ ?_) ?_
               · first|exact bdN (Below.refl _ _) 1|exact Below.refl _ _
               rintro q wS ⟨rfl,hq⟩;have hV:=hid hq;have H8:=hid (HQ.out wS hq);have hL:=hid (HQ.out wS.drew (bdN hq 1));clear hq)
             |(go_at_call 139
               with_reducible refine Calls.mono (H3.out _ ?_) ?_
               · first|exact hV.out|exact bdN hV.out 1
               rintro q wM ⟨rfl,hu⟩;have hW:=hid hu;have H9:=hid (HQ.out wM hu);have hM:=hid (HQ.out wM.drew (bdN hu 1));clear hu)
             |fail)
            have hN:=hid (hm.out.below hW.out);have hG:=hid (h8.out.below hW.out h8.out.lt);have hI:=hid (show Calls Tryz.prog 138 #[.slice A1 out.length c1,.int .i64 0,.int .i64 4,.int .i64 ((0:Nat):Int)] wM (PutPost o3 wM)by rw[<-h0];exact putG_0_4 0 (by have:=H0.out;omega) A1 out.length c1 wM.heap.size out wM hN.out.own.rd (Nat.le_refl _) (by have:=hC.out;omega));have hF:=hid (show o3.length<=1000100 by rw[<-h0,List.length_append];have:=Hk.putI_len 0 4 0;have:=hC.out;omega);have hJ:=hid h0;clear h0;have Hj:wM.cell? ⟨gh,2,none⟩=some (.bool false):=hG.out.cell 2;go_wp2_with fail;refine Calls.mono hI.out ?_;rintro q w3 ⟨A3,c3,rfl,h0,hd⟩;have he:=hid (hN.out.puts h0 hd);have hc:=hid (hG.out.below hd hG.out.lt);have q5:w3.cell? ⟨gh,0,none⟩=some (.string xn):=hc.out.cell 0;have q6:w3.cell? ⟨gh,1,none⟩=some (.string xv):=hc.out.cell 1;clear h0 hd;obtain⟨o5,hi⟩:∃o,o3++Hk.putT xn.data.toList=o:=⟨_,rfl⟩;have Hl:=hid (show Calls Tryz.prog 141 #[.slice A3 o3.length c3,.string xn] w3 (PutPost o5 w3)by rw[<-hi];exact puttext_any xn (by have:=hh.out;omega) A3 o3.length c3 w3.heap.size o3 w3 he.out.own.rd (Nat.le_refl _) (by have:=hF.out;omega));have Hm:=hid (show o5.length<=3000000 by rw[<-hi,List.length_append];have h1:=Hk.putT_len xn.data.toList;have h3:xn.data.toList.length=xn.size:=(by simp);have:=hh.out;have:=hF.out;omega);have Hn:=hid hi;clear hi;go_wp2_with fail;refine Calls.mono Hl.out ?_;rintro q w5 ⟨A5,c5,rfl,hi,hX⟩;have H1:=hid (he.out.puts hi hX);have Ho:=hid (hc.out.below hX hc.out.lt);clear hi hX;have q6:w5.cell? ⟨gh,1,none⟩=some (.string xv):=Ho.out.cell 1;obtain⟨o6,h9⟩:∃o,o5++Hk.putT xv.data.toList=o:=⟨_,rfl⟩;have hO:=hid (show Calls Tryz.prog 141 #[.slice A5 o5.length c5,.string xv] w5 (PutPost o6 w5)by rw[<-h9];exact puttext_any xv (by have:=hh.out;omega) A5 o5.length c5 w5.heap.size o5 w5 H1.out.own.rd (Nat.le_refl _) (by have:=Hm.out;omega));have hP:=hid h9;clear h9;go_wp2_with fail;refine Calls.mono hO.out ?_;rintro q w6 ⟨A6,c6,rfl,h9,ho⟩;have hQ:=hid (H1.out.puts h9 ho);clear h9 ho;have hj:=hid (show Hk.encOne ⟨E1,mo⟩ ⟨xn,xv,false⟩=(Hk.putI 0 4 0++Hk.litP 0 ⟨xn,xv,false⟩,⟨E1,mo⟩)by
             have h1:mo<Hk.hz ⟨xn,xv,false⟩:=by have h1:=H5.out;have h3:=H7.out;show mo<xn.size+xv.size+32;omega
             simp[Hk.encOne,hY.out,h1])
            have hk:=hid (show EnA w w6 e tb r least ⟨E1,mo⟩ (.slice A6 o6.length c6) (out++(Hk.putI 0 4 0++Hk.litP 0 ⟨xn,xv,false⟩))by
             rw[Hk.litP,if_pos rfl,<-List.append_assoc,<-List.append_assoc,hJ.out,Hn.out,hP.out];exact hQ.out)
            go_wp2_with fail;first
             |exact⟨hD.out _ _ _ _ hj.out hk.out,hw.out.2⟩
             |(rw[ej];exact⟨hD.out _ _ _ _ hj.out hk.out,hw.out.2⟩)
          · have h2:w2.cell? ⟨gh,2,none⟩=some (.bool false):=h8.out.cell 2
            have k1:((fi:Int)=0)=False:=by simp;exact hl
            have k3:¬fi=0:=hl;have k4:((fi:Int)==0)=false:=by simp;exact hl
            have k5:¬(fi:Int)=0:=by omega
            clear hl;obtain⟨o3,h0⟩:∃o,out++Hk.putI 0 4 fi=o:=⟨_,rfl⟩;have hT:=hid (λW (hb:Below w2.heap.size w2 W)=>(show Calls Tryz.prog 135 #[.agg #[.string xn,.string xv,.bool false]] W λq w'=>q= .returned (.int .i64 ((xn.size+xv.size+32:Nat):Int))/\Below w2.heap.size w2 w' from(hsize_any xn xv false W hh.out.1 hh.out.2).mono λq w' ⟨h1,h3⟩=>⟨h1,by rw[h3];exact hb.alloc hb.size _⟩));have H3:=hid (λW (hb:Below w2.heap.size w2 W)=>(tmost_any W tb r E1 mo (hm.out.below hb).tab).mono λq w' (h:_/\_)=>(show q= .returned (.int .i64 (mo:Nat))/\Below w2.heap.size w2 w' from⟨h.1,hb.trans (h.2.mono hb.size)⟩));have HQ:=hid (λW (hb:Below w2.heap.size w2 W)=>(show W.cell? ⟨e,0,none⟩=some (.pointer (some ⟨tb,0,none⟩))/\W.cell? ⟨gh,0,none⟩=some (.string xn)/\W.cell? ⟨gh,1,none⟩=some (.string xv)/\W.cell? ⟨gh,2,none⟩=some (.bool false)from⟨(hm.out.below hb).enc.cell 0,(h8.out.below hb h8.out.lt).cell 0,(h8.out.below hb h8.out.lt).cell 1,(h8.out.below hb h8.out.lt).cell 2⟩));have hK:=hid (HQ.out w2.drew (bdN (Below.refl _ _) 1));have H4:=hid (HQ.out w2 (Below.refl _ _));generalize hU:xn.size+xv.size+32=sv at hT hS;have H5:=hid hU;have Hc:((mo:Int)<(sv:Int)):=by omega
            have H7:=hid hS;clear hU hS;go_wp2_with fail;go_region_held3 (λW'=>W'.cell? ⟨e,0,none⟩=some (.pointer (some ⟨tb,0,none⟩))/\W'.cell? ⟨gh,0,none⟩=some (.string xn)/\W'.cell? ⟨gh,1,none⟩=some (.string xv)/\W'.cell? ⟨gh,2,none⟩=some (.bool false)) (first|with_reducible exact H4.out|with_reducible exact hK.out|with_reducible exact H8.out|with_reducible exact hL.out|with_reducible exact H9.out|with_reducible exact hM.out) (first
             |(go_at_call 135
               with_reducible refine Calls.mono (hT.out _ ?_) ?_
               · first|exact bdN (Below.refl _ _) 1|exact Below.refl _ _
               rintro q wS ⟨rfl,hq⟩;have hV:=hid hq;have H8:=hid (HQ.out wS hq);have hL:=hid (HQ.out wS.drew (bdN hq 1));clear hq)
             |(go_at_call 139
               with_reducible refine Calls.mono (H3.out _ ?_) ?_
               · first|exact hV.out|exact bdN hV.out 1
               rintro q wM ⟨rfl,hu⟩;have hW:=hid hu;have H9:=hid (HQ.out wM hu);have hM:=hid (HQ.out wM.drew (bdN hu 1));clear hu)
             |fail)
            have hN:=hid (hm.out.below hW.out);have hG:=hid (h8.out.below hW.out h8.out.lt);have hI:=hid (show Calls Tryz.prog 138 #[.slice A1 out.length c1,.int .i64 0,.int .i64 4,.int .i64 ((fi:Nat):Int)] wM (PutPost o3 wM)by rw[<-h0];exact putG_0_4 fi (by have:=H0.out;omega) A1 out.length c1 wM.heap.size out wM hN.out.own.rd (Nat.le_refl _) (by have:=hC.out;omega));have hF:=hid (show o3.length<=1000100 by rw[<-h0,List.length_append];have:=Hk.putI_len 0 4 fi;have:=hC.out;omega);have hJ:=hid h0;clear h0;have Hj:wM.cell? ⟨gh,2,none⟩=some (.bool false):=hG.out.cell 2;go_wp2_with fail;refine Calls.mono hI.out ?_;rintro q w3 ⟨A3,c3,rfl,h0,hd⟩;have he:=hid (hN.out.puts h0 hd);have hc:=hid (hG.out.below hd hG.out.lt);have q5:w3.cell? ⟨gh,0,none⟩=some (.string xn):=hc.out.cell 0;have q6:w3.cell? ⟨gh,1,none⟩=some (.string xv):=hc.out.cell 1;clear h0 hd;obtain⟨o6,h9⟩:∃o,o3++Hk.putT xv.data.toList=o:=⟨_,rfl⟩;have hO:=hid (show Calls Tryz.prog 141 #[.slice A3 o3.length c3,.string xv] w3 (PutPost o6 w3)by rw[<-h9];exact puttext_any xv (by have:=hh.out;omega) A3 o3.length c3 w3.heap.size o3 w3 he.out.own.rd (Nat.le_refl _) (by have:=hF.out;omega));have hP:=hid h9;clear h9;go_wp2_with fail;refine Calls.mono hO.out ?_;rintro q w6 ⟨A6,c6,rfl,h9,ho⟩;have hQ:=hid (he.out.puts h9 ho);clear h9 ho;have hj:=hid (show Hk.encOne ⟨E1,mo⟩ ⟨xn,xv,false⟩=(Hk.putI 0 4 fi++Hk.litP fi ⟨xn,xv,false⟩,⟨E1,mo⟩)by
             have h1:mo<Hk.hz ⟨xn,xv,false⟩:=by have h1:=H5.out;have h3:=H7.out;show mo<xn.size+xv.size+32;omega
             simp[Hk.encOne,hY.out,h1])
            have hk:=hid (show EnA w w6 e tb r least ⟨E1,mo⟩ (.slice A6 o6.length c6) (out++(Hk.putI 0 4 fi++Hk.litP fi ⟨xn,xv,false⟩))by
             rw[Hk.litP,if_neg (by assumption),List.nil_append,<-List.append_assoc,hJ.out,hP.out];exact hQ.out)
            go_wp2_with fail;first
             |exact⟨hD.out _ _ _ _ hj.out hk.out,hw.out.2⟩
             |(rw[ej];exact⟨hD.out _ _ _ _ hj.out hk.out,hw.out.2⟩)
        · by_cases hl:fi=0
          · have h2:w2.cell? ⟨gh,2,none⟩=some (.bool false):=h8.out.cell 2
            obtain rfl:fi=0:=hl;obtain⟨o3,h0⟩:∃o,out++Hk.putI 64 6 0=o:=⟨_,rfl⟩;have hT:=hid (λW (hb:Below w2.heap.size w2 W)=>(show Calls Tryz.prog 135 #[.agg #[.string xn,.string xv,.bool false]] W λq w'=>q= .returned (.int .i64 ((xn.size+xv.size+32:Nat):Int))/\Below w2.heap.size w2 w' from(hsize_any xn xv false W hh.out.1 hh.out.2).mono λq w' ⟨h1,h3⟩=>⟨h1,by rw[h3];exact hb.alloc hb.size _⟩));have H3:=hid (λW (hb:Below w2.heap.size w2 W)=>(tmost_any W tb r E1 mo (hm.out.below hb).tab).mono λq w' (h:_/\_)=>(show q= .returned (.int .i64 (mo:Nat))/\Below w2.heap.size w2 w' from⟨h.1,hb.trans (h.2.mono hb.size)⟩));have HQ:=hid (λW (hb:Below w2.heap.size w2 W)=>(show W.cell? ⟨e,0,none⟩=some (.pointer (some ⟨tb,0,none⟩))/\W.cell? ⟨gh,0,none⟩=some (.string xn)/\W.cell? ⟨gh,1,none⟩=some (.string xv)/\W.cell? ⟨gh,2,none⟩=some (.bool false)from⟨(hm.out.below hb).enc.cell 0,(h8.out.below hb h8.out.lt).cell 0,(h8.out.below hb h8.out.lt).cell 1,(h8.out.below hb h8.out.lt).cell 2⟩));have hK:=hid (HQ.out w2.drew (bdN (Below.refl _ _) 1));have H4:=hid (HQ.out w2 (Below.refl _ _));generalize hU:xn.size+xv.size+32=sv at hT hS;have H5:=hid hU;have Hc:¬((mo:Int)<(sv:Int)):=by omega
            have H7:=hid hS;clear hU hS;go_wp2_with fail;go_region_held3 (λW'=>W'.cell? ⟨e,0,none⟩=some (.pointer (some ⟨tb,0,none⟩))/\W'.cell? ⟨gh,0,none⟩=some (.string xn)/\W'.cell? ⟨gh,1,none⟩=some (.string xv)/\W'.cell? ⟨gh,2,none⟩=some (.bool false)) (first|with_reducible exact H4.out|with_reducible exact hK.out|with_reducible exact H8.out|with_reducible exact hL.out|with_reducible exact H9.out|with_reducible exact hM.out) (first
             |(go_at_call 135
               with_reducible refine Calls.mono (hT.out _ ?_) ?_
               · first|exact bdN (Below.refl _ _) 1|exact Below.refl _ _
               rintro q wS ⟨rfl,hq⟩;have hV:=hid hq;have H8:=hid (HQ.out wS hq);have hL:=hid (HQ.out wS.drew (bdN hq 1));clear hq)
             |(go_at_call 139
               with_reducible refine Calls.mono (H3.out _ ?_) ?_
               · first|exact hV.out|exact bdN hV.out 1
               rintro q wM ⟨rfl,hu⟩;have hW:=hid hu;have H9:=hid (HQ.out wM hu);have hM:=hid (HQ.out wM.drew (bdN hu 1));clear hu)
             |fail)
            have hN:=hid (hm.out.below hW.out);have hG:=hid (h8.out.below hW.out h8.out.lt);have He:=hid (show mo<=4096 from hN.out.mo);have hI:=hid (show Calls Tryz.prog 138 #[.slice A1 out.length c1,.int .i64 64,.int .i64 6,.int .i64 ((0:Nat):Int)] wM (PutPost o3 wM)by rw[<-h0];exact putG_64_6 0 (by have:=H0.out;omega) A1 out.length c1 wM.heap.size out wM hN.out.own.rd (Nat.le_refl _) (by have:=hC.out;omega));have hF:=hid (show o3.length<=1000100 by rw[<-h0,List.length_append];have:=Hk.putI_len 64 6 0;have:=hC.out;omega);have hJ:=hid h0;clear h0;have Hj:wM.cell? ⟨gh,2,none⟩=some (.bool false):=hG.out.cell 2;go_wp2_with fail;refine Calls.mono hI.out ?_;rintro q w3 ⟨A3,c3,rfl,h0,hd⟩;have he:=hid (hN.out.puts h0 hd);have hc:=hid (hG.out.below hd hG.out.lt);have q5:w3.cell? ⟨gh,0,none⟩=some (.string xn):=hc.out.cell 0;have q6:w3.cell? ⟨gh,1,none⟩=some (.string xv):=hc.out.cell 1;clear h0 hd;have Hp:=hid (tadd_any w3.drew tb r E1 mo ⟨xn,xv,false⟩ (he.out.below (Below.refl _ _).drew).tab He.out hh.out.1 hh.out.2);simp only[hdrC]at Hp;have Hq:=hid (show w3.cell? ⟨e,0,none⟩=some (.pointer (some ⟨tb,0,none⟩))/\w3.cell? ⟨gh,0,none⟩=some (.string xn)/\w3.cell? ⟨gh,1,none⟩=some (.string xv)/\w3.cell? ⟨gh,2,none⟩=some (.bool false)from⟨he.out.enc.cell 0,hc.out.cell 0,hc.out.cell 1,hc.out.cell 2⟩);have Hg:=hid (show w3.drew.cell? ⟨e,0,none⟩=some (.pointer (some ⟨tb,0,none⟩))/\w3.drew.cell? ⟨gh,0,none⟩=some (.string xn)/\w3.drew.cell? ⟨gh,1,none⟩=some (.string xv)/\w3.drew.cell? ⟨gh,2,none⟩=some (.bool false)from Hq.out);clear h2 Hj;go_wp2_with fail;go_region_held3 (λW'=>W'.cell? ⟨e,0,none⟩=some (.pointer (some ⟨tb,0,none⟩))/\W'.cell? ⟨gh,0,none⟩=some (.string xn)/\W'.cell? ⟨gh,1,none⟩=some (.string xv)/\W'.cell? ⟨gh,2,none⟩=some (.bool false)) (first|with_reducible exact Hq.out|with_reducible exact Hg.out|with_reducible exact Hs.out|with_reducible exact Hh.out) (first
             |(go_at_call 140
               with_reducible refine Calls.mono Hp.out ?_
               rintro q w4 ⟨rfl,Ht,Ha⟩;have Hb:=hid ((he.out.below (Below.refl _ _).drew).adds ⟨xn,xv,false⟩ Ht Ha);have hR:=hid (Ha.blk (show Blk w3.drew gh 63 #[.string xn,.string xv,.bool false]from hc.out) hc.out.lt (λk=>by have h5:=HW.out;have h6:=he.out.lt;rcases k with k|k<;>omega));have q5:w4.cell? ⟨gh,0,none⟩=some (.string xn):=hR.out.cell 0;have q6:w4.cell? ⟨gh,1,none⟩=some (.string xv):=hR.out.cell 1;have Hs:=hid (show w4.cell? ⟨e,0,none⟩=some (.pointer (some ⟨tb,0,none⟩))/\w4.cell? ⟨gh,0,none⟩=some (.string xn)/\w4.cell? ⟨gh,1,none⟩=some (.string xv)/\w4.cell? ⟨gh,2,none⟩=some (.bool false)from⟨Hb.out.enc.cell 0,hR.out.cell 0,hR.out.cell 1,hR.out.cell 2⟩);have Hh:=hid (show w4.drew.cell? ⟨e,0,none⟩=some (.pointer (some ⟨tb,0,none⟩))/\w4.drew.cell? ⟨gh,0,none⟩=some (.string xn)/\w4.drew.cell? ⟨gh,1,none⟩=some (.string xv)/\w4.drew.cell? ⟨gh,2,none⟩=some (.bool false)from Hs.out);clear Ht Ha)
             |fail)
            obtain⟨o5,hi⟩:∃o,o3++Hk.putT xn.data.toList=o:=⟨_,rfl⟩;have Hl:=hid (show Calls Tryz.prog 141 #[.slice A3 o3.length c3,.string xn] w4 (PutPost o5 w4)by rw[<-hi];exact puttext_any xn (by have:=hh.out;omega) A3 o3.length c3 w4.heap.size o3 w4 Hb.out.own.rd (Nat.le_refl _) (by have:=hF.out;omega));have Hm:=hid (show o5.length<=3000000 by rw[<-hi,List.length_append];have h1:=Hk.putT_len xn.data.toList;have h3:xn.data.toList.length=xn.size:=(by simp);have:=hh.out;have:=hF.out;omega);have Hn:=hid hi;clear hi;go_wp2_with fail;refine Calls.mono Hl.out ?_;rintro q w5 ⟨A5,c5,rfl,hi,hX⟩;have H1:=hid (Hb.out.puts hi hX);have Ho:=hid (hR.out.below hX hR.out.lt);clear hi hX;have q6:w5.cell? ⟨gh,1,none⟩=some (.string xv):=Ho.out.cell 1;obtain⟨o6,h9⟩:∃o,o5++Hk.putT xv.data.toList=o:=⟨_,rfl⟩;have hO:=hid (show Calls Tryz.prog 141 #[.slice A5 o5.length c5,.string xv] w5 (PutPost o6 w5)by rw[<-h9];exact puttext_any xv (by have:=hh.out;omega) A5 o5.length c5 w5.heap.size o5 w5 H1.out.own.rd (Nat.le_refl _) (by have:=Hm.out;omega));have hP:=hid h9;clear h9;go_wp2_with fail;refine Calls.mono hO.out ?_;rintro q w6 ⟨A6,c6,rfl,h9,ho⟩;have hQ:=hid (H1.out.puts h9 ho);clear h9 ho;have hj:=hid (show Hk.encOne ⟨E1,mo⟩ ⟨xn,xv,false⟩=(Hk.putI 64 6 0++Hk.litP 0 ⟨xn,xv,false⟩,(Hk.TM.add ⟨E1,mo⟩ ⟨xn,xv,false⟩))by
             have h1:¬mo<Hk.hz ⟨xn,xv,false⟩:=by have h1:=H5.out;have h3:=H7.out;show¬mo<xn.size+xv.size+32;omega
             simp[Hk.encOne,hY.out,h1])
            have hk:=hid (show EnA w w6 e tb r least (Hk.TM.add ⟨E1,mo⟩ ⟨xn,xv,false⟩) (.slice A6 o6.length c6) (out++(Hk.putI 64 6 0++Hk.litP 0 ⟨xn,xv,false⟩))by
             rw[Hk.litP,if_pos rfl,<-List.append_assoc,<-List.append_assoc,hJ.out,Hn.out,hP.out];exact hQ.out)
            go_wp2_with fail;first
             |exact⟨hD.out _ _ _ _ hj.out hk.out,hw.out.2⟩
             |(rw[ej];exact⟨hD.out _ _ _ _ hj.out hk.out,hw.out.2⟩)
          · have h2:w2.cell? ⟨gh,2,none⟩=some (.bool false):=h8.out.cell 2
            have k1:((fi:Int)=0)=False:=by simp;exact hl
            have k3:¬fi=0:=hl;have k4:((fi:Int)==0)=false:=by simp;exact hl
            have k5:¬(fi:Int)=0:=by omega
            clear hl;obtain⟨o3,h0⟩:∃o,out++Hk.putI 64 6 fi=o:=⟨_,rfl⟩;have hT:=hid (λW (hb:Below w2.heap.size w2 W)=>(show Calls Tryz.prog 135 #[.agg #[.string xn,.string xv,.bool false]] W λq w'=>q= .returned (.int .i64 ((xn.size+xv.size+32:Nat):Int))/\Below w2.heap.size w2 w' from(hsize_any xn xv false W hh.out.1 hh.out.2).mono λq w' ⟨h1,h3⟩=>⟨h1,by rw[h3];exact hb.alloc hb.size _⟩));have H3:=hid (λW (hb:Below w2.heap.size w2 W)=>(tmost_any W tb r E1 mo (hm.out.below hb).tab).mono λq w' (h:_/\_)=>(show q= .returned (.int .i64 (mo:Nat))/\Below w2.heap.size w2 w' from⟨h.1,hb.trans (h.2.mono hb.size)⟩));have HQ:=hid (λW (hb:Below w2.heap.size w2 W)=>(show W.cell? ⟨e,0,none⟩=some (.pointer (some ⟨tb,0,none⟩))/\W.cell? ⟨gh,0,none⟩=some (.string xn)/\W.cell? ⟨gh,1,none⟩=some (.string xv)/\W.cell? ⟨gh,2,none⟩=some (.bool false)from⟨(hm.out.below hb).enc.cell 0,(h8.out.below hb h8.out.lt).cell 0,(h8.out.below hb h8.out.lt).cell 1,(h8.out.below hb h8.out.lt).cell 2⟩));have hK:=hid (HQ.out w2.drew (bdN (Below.refl _ _) 1));have H4:=hid (HQ.out w2 (Below.refl _ _));generalize hU:xn.size+xv.size+32=sv at hT hS;have H5:=hid hU;have Hc:¬((mo:Int)<(sv:Int)):=by omega
            have H7:=hid hS;clear hU hS;go_wp2_with fail;go_region_held3 (λW'=>W'.cell? ⟨e,0,none⟩=some (.pointer (some ⟨tb,0,none⟩))/\W'.cell? ⟨gh,0,none⟩=some (.string xn)/\W'.cell? ⟨gh,1,none⟩=some (.string xv)/\W'.cell? ⟨gh,2,none⟩=some (.bool false)) (first|with_reducible exact H4.out|with_reducible exact hK.out|with_reducible exact H8.out|with_reducible exact hL.out|with_reducible exact H9.out|with_reducible exact hM.out) (first
             |(go_at_call 135
               with_reducible refine Calls.mono (hT.out _ ?_) ?_
               · first|exact bdN (Below.refl _ _) 1|exact Below.refl _ _
               rintro q wS ⟨rfl,hq⟩;have hV:=hid hq;have H8:=hid (HQ.out wS hq);have hL:=hid (HQ.out wS.drew (bdN hq 1));clear hq)
             |(go_at_call 139
               with_reducible refine Calls.mono (H3.out _ ?_) ?_
               · first|exact hV.out|exact bdN hV.out 1
               rintro q wM ⟨rfl,hu⟩;have hW:=hid hu;have H9:=hid (HQ.out wM hu);have hM:=hid (HQ.out wM.drew (bdN hu 1));clear hu)
             |fail)
            have hN:=hid (hm.out.below hW.out);have hG:=hid (h8.out.below hW.out h8.out.lt);have He:=hid (show mo<=4096 from hN.out.mo);have hI:=hid (show Calls Tryz.prog 138 #[.slice A1 out.length c1,.int .i64 64,.int .i64 6,.int .i64 ((fi:Nat):Int)] wM (PutPost o3 wM)by rw[<-h0];exact putG_64_6 fi (by have:=H0.out;omega) A1 out.length c1 wM.heap.size out wM hN.out.own.rd (Nat.le_refl _) (by have:=hC.out;omega));have hF:=hid (show o3.length<=1000100 by rw[<-h0,List.length_append];have:=Hk.putI_len 64 6 fi;have:=hC.out;omega);have hJ:=hid h0;clear h0;have Hj:wM.cell? ⟨gh,2,none⟩=some (.bool false):=hG.out.cell 2;go_wp2_with fail;refine Calls.mono hI.out ?_;rintro q w3 ⟨A3,c3,rfl,h0,hd⟩;have he:=hid (hN.out.puts h0 hd);have hc:=hid (hG.out.below hd hG.out.lt);have q5:w3.cell? ⟨gh,0,none⟩=some (.string xn):=hc.out.cell 0;have q6:w3.cell? ⟨gh,1,none⟩=some (.string xv):=hc.out.cell 1;clear h0 hd;have Hp:=hid (tadd_any w3.drew tb r E1 mo ⟨xn,xv,false⟩ (he.out.below (Below.refl _ _).drew).tab He.out hh.out.1 hh.out.2);simp only[hdrC]at Hp;have Hq:=hid (show w3.cell? ⟨e,0,none⟩=some (.pointer (some ⟨tb,0,none⟩))/\w3.cell? ⟨gh,0,none⟩=some (.string xn)/\w3.cell? ⟨gh,1,none⟩=some (.string xv)/\w3.cell? ⟨gh,2,none⟩=some (.bool false)from⟨he.out.enc.cell 0,hc.out.cell 0,hc.out.cell 1,hc.out.cell 2⟩);have Hg:=hid (show w3.drew.cell? ⟨e,0,none⟩=some (.pointer (some ⟨tb,0,none⟩))/\w3.drew.cell? ⟨gh,0,none⟩=some (.string xn)/\w3.drew.cell? ⟨gh,1,none⟩=some (.string xv)/\w3.drew.cell? ⟨gh,2,none⟩=some (.bool false)from Hq.out);clear h2 Hj;go_wp2_with fail;go_region_held3 (λW'=>W'.cell? ⟨e,0,none⟩=some (.pointer (some ⟨tb,0,none⟩))/\W'.cell? ⟨gh,0,none⟩=some (.string xn)/\W'.cell? ⟨gh,1,none⟩=some (.string xv)/\W'.cell? ⟨gh,2,none⟩=some (.bool false)) (first|with_reducible exact Hq.out|with_reducible exact Hg.out|with_reducible exact Hs.out|with_reducible exact Hh.out) (first
             |(go_at_call 140
               with_reducible refine Calls.mono Hp.out ?_
               rintro q w4 ⟨rfl,Ht,Ha⟩;have Hb:=hid ((he.out.below (Below.refl _ _).drew).adds ⟨xn,xv,false⟩ Ht Ha);have hR:=hid (Ha.blk (show Blk w3.drew gh 63 #[.string xn,.string xv,.bool false]from hc.out) hc.out.lt (λk=>by have h5:=HW.out;have h6:=he.out.lt;rcases k with k|k<;>omega));have q5:w4.cell? ⟨gh,0,none⟩=some (.string xn):=hR.out.cell 0;have q6:w4.cell? ⟨gh,1,none⟩=some (.string xv):=hR.out.cell 1;have Hs:=hid (show w4.cell? ⟨e,0,none⟩=some (.pointer (some ⟨tb,0,none⟩))/\w4.cell? ⟨gh,0,none⟩=some (.string xn)/\w4.cell? ⟨gh,1,none⟩=some (.string xv)/\w4.cell? ⟨gh,2,none⟩=some (.bool false)from⟨Hb.out.enc.cell 0,hR.out.cell 0,hR.out.cell 1,hR.out.cell 2⟩);have Hh:=hid (show w4.drew.cell? ⟨e,0,none⟩=some (.pointer (some ⟨tb,0,none⟩))/\w4.drew.cell? ⟨gh,0,none⟩=some (.string xn)/\w4.drew.cell? ⟨gh,1,none⟩=some (.string xv)/\w4.drew.cell? ⟨gh,2,none⟩=some (.bool false)from Hs.out);clear Ht Ha)
             |fail)
            obtain⟨o6,h9⟩:∃o,o3++Hk.putT xv.data.toList=o:=⟨_,rfl⟩;have hO:=hid (show Calls Tryz.prog 141 #[.slice A3 o3.length c3,.string xv] w4 (PutPost o6 w4)by rw[<-h9];exact puttext_any xv (by have:=hh.out;omega) A3 o3.length c3 w4.heap.size o3 w4 Hb.out.own.rd (Nat.le_refl _) (by have:=hF.out;omega));have hP:=hid h9;clear h9;go_wp2_with fail;refine Calls.mono hO.out ?_;rintro q w6 ⟨A6,c6,rfl,h9,ho⟩;have hQ:=hid (Hb.out.puts h9 ho);clear h9 ho;have hj:=hid (show Hk.encOne ⟨E1,mo⟩ ⟨xn,xv,false⟩=(Hk.putI 64 6 fi++Hk.litP fi ⟨xn,xv,false⟩,(Hk.TM.add ⟨E1,mo⟩ ⟨xn,xv,false⟩))by
             have h1:¬mo<Hk.hz ⟨xn,xv,false⟩:=by have h1:=H5.out;have h3:=H7.out;show¬mo<xn.size+xv.size+32;omega
             simp[Hk.encOne,hY.out,h1])
            have hk:=hid (show EnA w w6 e tb r least (Hk.TM.add ⟨E1,mo⟩ ⟨xn,xv,false⟩) (.slice A6 o6.length c6) (out++(Hk.putI 64 6 fi++Hk.litP fi ⟨xn,xv,false⟩))by
             rw[Hk.litP,if_neg (by assumption),List.nil_append,<-List.append_assoc,hJ.out,hP.out];exact hQ.out)
            go_wp2_with fail;first
             |exact⟨hD.out _ _ _ _ hj.out hk.out,hw.out.2⟩
             |(rw[ej];exact⟨hD.out _ _ _ _ hj.out hk.out,hw.out.2⟩)
      · by_cases hl:fi=0
        · have h2:w2.cell? ⟨gh,2,none⟩=some (.bool true):=h8.out.cell 2
          obtain rfl:fi=0:=hl;obtain⟨o3,h0⟩:∃o,out++Hk.putI 16 4 0=o:=⟨_,rfl⟩;have hI:=hid (show Calls Tryz.prog 138 #[.slice A1 out.length c1,.int .i64 16,.int .i64 4,.int .i64 ((0:Nat):Int)] w2 (PutPost o3 w2)by rw[<-h0];exact putG_16_4 0 (by have:=H0.out;omega) A1 out.length c1 w2.heap.size out w2 hm.out.own.rd (Nat.le_refl _) (by have:=hC.out;omega));have hF:=hid (show o3.length<=1000100 by rw[<-h0,List.length_append];have:=Hk.putI_len 16 4 0;have:=hC.out;omega);have hJ:=hid h0;clear h0;go_wp2_with fail;refine Calls.mono hI.out ?_;rintro q w3 ⟨A3,c3,rfl,h0,hd⟩;have he:=hid (hm.out.puts h0 hd);have hc:=hid (h8.out.below hd h8.out.lt);have q5:w3.cell? ⟨gh,0,none⟩=some (.string xn):=hc.out.cell 0;have q6:w3.cell? ⟨gh,1,none⟩=some (.string xv):=hc.out.cell 1;clear h0 hd;obtain⟨o5,hi⟩:∃o,o3++Hk.putT xn.data.toList=o:=⟨_,rfl⟩;have Hl:=hid (show Calls Tryz.prog 141 #[.slice A3 o3.length c3,.string xn] w3 (PutPost o5 w3)by rw[<-hi];exact puttext_any xn (by have:=hh.out;omega) A3 o3.length c3 w3.heap.size o3 w3 he.out.own.rd (Nat.le_refl _) (by have:=hF.out;omega));have Hm:=hid (show o5.length<=3000000 by rw[<-hi,List.length_append];have h1:=Hk.putT_len xn.data.toList;have h3:xn.data.toList.length=xn.size:=(by simp);have:=hh.out;have:=hF.out;omega);have Hn:=hid hi;clear hi;go_wp2_with fail;refine Calls.mono Hl.out ?_;rintro q w5 ⟨A5,c5,rfl,hi,hX⟩;have H1:=hid (he.out.puts hi hX);have Ho:=hid (hc.out.below hX hc.out.lt);clear hi hX;have q6:w5.cell? ⟨gh,1,none⟩=some (.string xv):=Ho.out.cell 1;obtain⟨o6,h9⟩:∃o,o5++Hk.putT xv.data.toList=o:=⟨_,rfl⟩;have hO:=hid (show Calls Tryz.prog 141 #[.slice A5 o5.length c5,.string xv] w5 (PutPost o6 w5)by rw[<-h9];exact puttext_any xv (by have:=hh.out;omega) A5 o5.length c5 w5.heap.size o5 w5 H1.out.own.rd (Nat.le_refl _) (by have:=Hm.out;omega));have hP:=hid h9;clear h9;go_wp2_with fail;refine Calls.mono hO.out ?_;rintro q w6 ⟨A6,c6,rfl,h9,ho⟩;have hQ:=hid (H1.out.puts h9 ho);clear h9 ho;have hj:=hid (show Hk.encOne ⟨E1,mo⟩ ⟨xn,xv,true⟩=(Hk.putI 16 4 0++Hk.litP 0 ⟨xn,xv,true⟩,⟨E1,mo⟩)by
           simp[Hk.encOne,hY.out])
          have hk:=hid (show EnA w w6 e tb r least ⟨E1,mo⟩ (.slice A6 o6.length c6) (out++(Hk.putI 16 4 0++Hk.litP 0 ⟨xn,xv,true⟩))by
           rw[Hk.litP,if_pos rfl,<-List.append_assoc,<-List.append_assoc,hJ.out,Hn.out,hP.out];exact hQ.out)
          go_wp2_with fail;first
           |exact⟨hD.out _ _ _ _ hj.out hk.out,hw.out.2⟩
           |(rw[ej];exact⟨hD.out _ _ _ _ hj.out hk.out,hw.out.2⟩)
        · have h2:w2.cell? ⟨gh,2,none⟩=some (.bool true):=h8.out.cell 2
          have k1:((fi:Int)=0)=False:=by simp;exact hl
          have k3:¬fi=0:=hl;have k4:((fi:Int)==0)=false:=by simp;exact hl
          have k5:¬(fi:Int)=0:=by omega
          clear hl;obtain⟨o3,h0⟩:∃o,out++Hk.putI 16 4 fi=o:=⟨_,rfl⟩;have hI:=hid (show Calls Tryz.prog 138 #[.slice A1 out.length c1,.int .i64 16,.int .i64 4,.int .i64 ((fi:Nat):Int)] w2 (PutPost o3 w2)by rw[<-h0];exact putG_16_4 fi (by have:=H0.out;omega) A1 out.length c1 w2.heap.size out w2 hm.out.own.rd (Nat.le_refl _) (by have:=hC.out;omega));have hF:=hid (show o3.length<=1000100 by rw[<-h0,List.length_append];have:=Hk.putI_len 16 4 fi;have:=hC.out;omega);have hJ:=hid h0;clear h0;go_wp2_with fail;refine Calls.mono hI.out ?_;rintro q w3 ⟨A3,c3,rfl,h0,hd⟩;have he:=hid (hm.out.puts h0 hd);have hc:=hid (h8.out.below hd h8.out.lt);have q5:w3.cell? ⟨gh,0,none⟩=some (.string xn):=hc.out.cell 0;have q6:w3.cell? ⟨gh,1,none⟩=some (.string xv):=hc.out.cell 1;clear h0 hd;obtain⟨o6,h9⟩:∃o,o3++Hk.putT xv.data.toList=o:=⟨_,rfl⟩;have hO:=hid (show Calls Tryz.prog 141 #[.slice A3 o3.length c3,.string xv] w3 (PutPost o6 w3)by rw[<-h9];exact puttext_any xv (by have:=hh.out;omega) A3 o3.length c3 w3.heap.size o3 w3 he.out.own.rd (Nat.le_refl _) (by have:=hF.out;omega));have hP:=hid h9;clear h9;go_wp2_with fail;refine Calls.mono hO.out ?_;rintro q w6 ⟨A6,c6,rfl,h9,ho⟩;have hQ:=hid (he.out.puts h9 ho);clear h9 ho;have hj:=hid (show Hk.encOne ⟨E1,mo⟩ ⟨xn,xv,true⟩=(Hk.putI 16 4 fi++Hk.litP fi ⟨xn,xv,true⟩,⟨E1,mo⟩)by
           simp[Hk.encOne,hY.out])
          have hk:=hid (show EnA w w6 e tb r least ⟨E1,mo⟩ (.slice A6 o6.length c6) (out++(Hk.putI 16 4 fi++Hk.litP fi ⟨xn,xv,true⟩))by
           rw[Hk.litP,if_neg (by assumption),List.nil_append,<-List.append_assoc,hJ.out,hP.out];exact hQ.out)
          go_wp2_with fail;first
           |exact⟨hD.out _ _ _ _ hj.out hk.out,hw.out.2⟩
           |(rw[ej];exact⟨hD.out _ _ _ _ hj.out hk.out,hw.out.2⟩)
    · have hl:fi≠0:=g9.out rfl
      cases xb
      · have h2:w2.cell? ⟨gh,2,none⟩=some (.bool false):=h8.out.cell 2
        obtain⟨o3,h0⟩:∃o,out++Hk.putI 128 7 fi=o:=⟨_,rfl⟩;have hI:=hid (show Calls Tryz.prog 138 #[.slice A1 out.length c1,.int .i64 128,.int .i64 7,.int .i64 ((fi:Nat):Int)] w2 (PutPost o3 w2)by rw[<-h0];exact putG_128_7 fi (by have:=H0.out;omega) A1 out.length c1 w2.heap.size out w2 hm.out.own.rd (Nat.le_refl _) (by have:=hC.out;omega));have hF:=hid (show o3.length<=1000100 by rw[<-h0,List.length_append];have:=Hk.putI_len 128 7 fi;have:=hC.out;omega);have hJ:=hid h0;clear h0;go_wp2_with fail;refine Calls.mono hI.out ?_;rintro q w3 ⟨A3,c3,rfl,h0,hd⟩;have he:=hid (hm.out.puts h0 hd);have hc:=hid (h8.out.below hd h8.out.lt);clear h0 hd;have hj:=hid (show Hk.encOne ⟨E1,mo⟩ ⟨xn,xv,false⟩=(Hk.putI 128 7 fi,⟨E1,mo⟩)by
         simp[Hk.encOne,hY.out])
        have hk:=hid (show EnA w w3 e tb r least ⟨E1,mo⟩ (.slice A3 o3.length c3) (out++(Hk.putI 128 7 fi))by rw[hJ.out];exact he.out);go_wp2_with fail;first
         |exact⟨hD.out _ _ _ _ hj.out hk.out,hw.out.2⟩
         |(rw[ej];exact⟨hD.out _ _ _ _ hj.out hk.out,hw.out.2⟩)
      · have h2:w2.cell? ⟨gh,2,none⟩=some (.bool true):=h8.out.cell 2
        have k1:((fi:Int)=0)=False:=by simp;exact hl
        have k3:¬fi=0:=hl;have k4:((fi:Int)==0)=false:=by simp;exact hl
        have k5:¬(fi:Int)=0:=by omega
        clear hl;obtain⟨o3,h0⟩:∃o,out++Hk.putI 16 4 fi=o:=⟨_,rfl⟩;have hI:=hid (show Calls Tryz.prog 138 #[.slice A1 out.length c1,.int .i64 16,.int .i64 4,.int .i64 ((fi:Nat):Int)] w2 (PutPost o3 w2)by rw[<-h0];exact putG_16_4 fi (by have:=H0.out;omega) A1 out.length c1 w2.heap.size out w2 hm.out.own.rd (Nat.le_refl _) (by have:=hC.out;omega));have hF:=hid (show o3.length<=1000100 by rw[<-h0,List.length_append];have:=Hk.putI_len 16 4 fi;have:=hC.out;omega);have hJ:=hid h0;clear h0;go_wp2_with fail;refine Calls.mono hI.out ?_;rintro q w3 ⟨A3,c3,rfl,h0,hd⟩;have he:=hid (hm.out.puts h0 hd);have hc:=hid (h8.out.below hd h8.out.lt);have q5:w3.cell? ⟨gh,0,none⟩=some (.string xn):=hc.out.cell 0;have q6:w3.cell? ⟨gh,1,none⟩=some (.string xv):=hc.out.cell 1;clear h0 hd;obtain⟨o6,h9⟩:∃o,o3++Hk.putT xv.data.toList=o:=⟨_,rfl⟩;have hO:=hid (show Calls Tryz.prog 141 #[.slice A3 o3.length c3,.string xv] w3 (PutPost o6 w3)by rw[<-h9];exact puttext_any xv (by have:=hh.out;omega) A3 o3.length c3 w3.heap.size o3 w3 he.out.own.rd (Nat.le_refl _) (by have:=hF.out;omega));have hP:=hid h9;clear h9;go_wp2_with fail;refine Calls.mono hO.out ?_;rintro q w6 ⟨A6,c6,rfl,h9,ho⟩;have hQ:=hid (he.out.puts h9 ho);clear h9 ho;have hj:=hid (show Hk.encOne ⟨E1,mo⟩ ⟨xn,xv,true⟩=(Hk.putI 16 4 fi++Hk.litP fi ⟨xn,xv,true⟩,⟨E1,mo⟩)by
         simp[Hk.encOne,hY.out])
        have hk:=hid (show EnA w w6 e tb r least ⟨E1,mo⟩ (.slice A6 o6.length c6) (out++(Hk.putI 16 4 fi++Hk.litP fi ⟨xn,xv,true⟩))by
         rw[Hk.litP,if_neg (by assumption),List.nil_append,<-List.append_assoc,hJ.out,hP.out];exact hQ.out)
        go_wp2_with fail;first
         |exact⟨hD.out _ _ _ _ hj.out hk.out,hw.out.2⟩
         |(rw[ej];exact⟨hD.out _ _ _ _ hj.out hk.out,hw.out.2⟩)
  · obtain rfl:j=n:=by omega
    have gc:¬((j:Int)<(j:Int)):=by omega
    have et:hs.take j=hs:=List.take_of_length_le (Nat.le_of_eq HN.out);rw[et]at hf;have ga:=hid hf;clear hf HR et HF;go_wp2;go_ret;exact⟨_,rfl,ga.out⟩
end Go.Proofs.YtkpppjhbmnfmkaaGreatDoor
end

section
set_option maxHeartbeats 4000000
set_option maxRecDepth 100000
namespace Go.Proofs.YtkpppjhbmnfmkaaGreatDoor
open Lib (hid)
open Go.RowKit Go.Own Go.Own.Im Go.Own.Cx Go.Own.Fr Go.Own.Hd
theorem hszs_take (hs:List HdrV) {j:Nat} {x:HdrV} (hx:hs[j]?=some x):hszs (hs.take (j+1))=hszs (hs.take j)+hsz x:=by
 rw[List.take_add_one,hx];simp[hszs]
theorem hszs_le (hs:List HdrV) (h:∀x∈hs,x.name.size<=1000000/\x.value.size<=1000000):∀n,hszs (hs.take n)<=3000000*n
 |0=>by simp[hszs]
 |n+1=>by
  have ih:=hszs_le hs h n;cases hx:hs[n]? with
  |none=>
   rw[show hs.take (n+1)=hs.take n by rw[List.take_add_one,hx];simp];omega
  |some x=>
   rw[hszs_take hs hx];have:=h x (List.mem_of_getElem? hx);unfold hsz;omega
def SzR (w:World) (hs:List HdrV) (nv iv:Value) (wr:World):Prop:=∃j:Nat,nv= .int .i64 (hszs (hs.take j):Nat)/\iv= .int .i64 (j:Nat)/\j<=hs.length/\Below w.heap.size w wr
theorem sizeL_any (w:World) (A:Option Addr) (c:Nat) (hs:List HdrV) (hr:Cm.RS hdrC 3 w w.heap.size A hs.length hs) (hn:hs.length<=1000) (hz:∀x∈hs,x.name.size<=1000000/\x.value.size<=1000000):
 Calls Tryz.prog 94 #[.slice A hs.length c] w λe w'=>e= .returned (.int .i64 (hszs hs:Nat))/\Below w.heap.size w w':=by
 have HR:=hid hr;have HH:=hid (show _/\_ from⟨hn,hz⟩);have HL:=hid (hszs_le hs hz);generalize hN:hs.length=n at*
 have HN:=hid hN;clear hr hn hz hN;go_enter Tryz.func94,Tryz.ntmps94;go_upto_region 3 with fail;go_loopw [3,8] (λnv iv wr=>Hid (SzR w hs nv iv wr)) (λ_ iv _=>n-(intOf iv).toNat)
 case atStart=>exact⟨0,rfl,rfl,Nat.zero_le _,Below.refl _ _⟩
 case round=>
  obtain⟨j,rfl,rfl,h3,hb⟩:=hrel;rw[HN.out]at h3;have HB:=hid hb;by_cases h6:j<n
  · have he:(j:Int)<(n:Int):=by omega
    obtain⟨x,hx⟩:∃x,hs[j]?=some x:=⟨_,List.getElem?_eq_getElem (by rw[HN.out];exact h6)⟩;have hH:=hr_ofA (HN.out.symm▸HR.out.below hb);obtain⟨ad,rfl,a0,a1,a2⟩:=hH.at_ (k:=j) (by rw[HN.out];omega);have h7:hs.getD j ⟨⟨#[]⟩,⟨#[]⟩,false⟩=x:=by rw[List.getD,hx];rfl
    rw[h7]at a0 a1 a2;have h2:=HH.out.2 x (List.mem_of_getElem? hx);have h4:=hid (λW=>hsize_any x.name x.value x.never W h2.1 h2.2);have HX:=hid hx;have i0:(0:Int)<=(j:Int):=by omega
    have hc:=HL.out j;have h1:j<=1000:=by have:=HH.out.1;omega
    have h5:=hszs_take hs hx;have h8:hsz x<=2000032:=by unfold hsz;omega
    obtain⟨xn,xv,xb⟩:=x;simp only at a0 a1 a2 h2 h4;have HX:=hid (Blk.new wr 63 #[.string xn,.string xv,.bool xb]);have h9:=hid (HB.out.alloc HB.out.size (.cells #[.string xn,.string xv,.bool xb] 63));obtain⟨sz,h0⟩:∃sz,xn.size+xv.size+32=sz:=⟨_,rfl⟩;rw[show hsz ⟨xn,xv,xb⟩=sz from h0]at h5 h8;rw[h0]at h4;have hd:=hid h5;generalize hszs (hs.take j)=nj at*
    have ew:wrap64 ((nj:Int)+(sz:Int))=((nj+sz:Nat):Int):=by unfold wrap64;omega
    have ew2:IntKind.i64.wrap ((nj:Int)+(sz:Int))=((nj+sz:Nat):Int):=by rw[IntKind.wrap_i64];omega
    clear hb h3 hx h2 hH h7 h0 h5 h8 hc h1;go_upto_region 5 with fail;clear a0 a1 a2;generalize wr.alloc (.cells #[.string xn,.string xv,.bool xb] 63)=W1 at*
    have x0:W1.cell? ⟨wr.heap.size,0,none⟩=some (.string xn):=HX.out.cell 0;have x1:W1.cell? ⟨wr.heap.size,1,none⟩=some (.string xv):=HX.out.cell 1;have x2:W1.cell? ⟨wr.heap.size,2,none⟩=some (.bool xb):=HX.out.cell 2;go_wp2_with (first
     |(go_at_call 135
       refine Calls.mono (h4.out _) ?_;rintro e w2 ⟨rfl,rfl⟩)
     |fail)
    have ej:wrap64 ((j:Int)+1)=((j+1:Nat):Int):=by have:=HH.out.1;unfold wrap64;omega
    rw[ej];refine⟨⟨j+1,by rw[hd.out];exact congrArg (Value.int .i64) (by omega),rfl,by rw[HN.out];exact h6,h9.out.alloc h9.out.size _⟩,by simp[intOf];omega⟩
  · obtain rfl:j=n:=by omega
    have hf:¬((j:Int)<(j:Int)):=by omega
    have et:hs.take j=hs:=List.take_of_length_le (Nat.le_of_eq HN.out);rw[et];clear hb h3 et;go_wp2;go_ret;exact⟨rfl,HB.out⟩
theorem large_no (w:World) (A:Option Addr) (c:Nat) (hs:List HdrV) (hr:Cm.RS hdrC 3 w w.heap.size A hs.length hs) (hn:hs.length<=1000) (hz:∀x∈hs,x.name.size<=1000000/\x.value.size<=1000000) (hb:hszs hs<=16384):
 Calls Tryz.prog 58 #[.slice A hs.length c] w λe w'=>e= .returned .nilIface/\Below w.heap.size w w':=by
 have HS:=hid (sizeL_any w A c hs hr hn hz);have k:¬(16384:Int)<(hszs hs:Int):=by omega
 clear hr hn hz hb;generalize hszs hs=z at*
 generalize hs.length=n at*
 go_enter Tryz.func58,Tryz.ntmps58;go_wp2_with fail;refine HS.out.mono ?_;rintro e w1 ⟨rfl,h0⟩;have h1:=hid h0;clear h0;go_wp2;go_ret;exact⟨rfl,h1.out⟩
end Go.Proofs.YtkpppjhbmnfmkaaGreatDoor
end
