import Derived.Test.YtkpppjhbmnfmkaaGreatDoorJar
import Derived.Test.YtkpppjhbmnfmkaaGreatDoorJay
import Derived.Test.YtkpppjhbmnfmkaaGreatDoorJaq
import Derived.Test.YtkpppjhbmnfmkaaGreatDoorKu
set_option linter.unusedSimpArgs false
set_option linter.unusedVariables false
set_option maxHeartbeats 8000000
set_option maxRecDepth 100000
namespace Go.Proofs.YtkpppjhbmnfmkaaGreatDoor
open Go.RowKit Go.Own Go.Own.Im Go.Own.Cx Go.Own.Fr Go.Own.Hd
def nxt (M:Cv):Nat:=if M.last=0 then 1 else M.last+2
def opcA (M:Cv) (fin:Bool) (hs:List HdrV):Cv:=
 {M with hp:=M.hp.encd (Hk.encP M.hp.et hs).2,last:=nxt M,strs:=M.strs++[{id:=nxt M,own:=if fin then 3 else 1,inw:=M.window,outw:=M.others}],out:=M.out++frameB 1 (hfl fin) (nxt M) (Hk.encP M.hp.et hs).1}
theorem rs_fr {w w':World} {ow ow':Nat->Tg} {A:Option Addr} {n:Nat} {hs:List HdrV} (hr:Cm.RS hdrC 3 w w.heap.size A n hs) (hf:Fr w ow w' ow') (h0:∀ad,A=some ad->ow ad.block= .no):Cm.RS hdrC 3 w' w'.heap.size A n hs:=
 (hr.keep hf.size λad h1 h2 _=>hf.keep _ h2 (h0 ad h1)).more hf.size
section
variable {w:World} {ow:Nat->Tg} {b:Nat} {M:Cv} {L:Lay} {v:Int} {id:Nat}
theorem CN.owns (h:CN w ow b M L) (hv:v=(id:Int)):CN (w.setCell ⟨b,14,none⟩ (.int .i64 v)) ow b {M with last:=id} L/\Fr w ow (w.setCell ⟨b,14,none⟩ (.int .i64 v)) ow:=by
 subst hv;exact h.last_ id
theorem opens_v (hv:v=(id:Int)) (h:CN w ow b M L) (hnew:∀s∈M.strs,s.id≠id) (hid:id<=2147483647) (h0:0<=M.window/\M.window<=2147483647) (h1:0<=M.others/\M.others<=2147483647) (hn:M.strs.length<=1000000):
 Calls Tryz.prog 59 #[.pointer (some ⟨b,0,none⟩),.int .i64 v] w λe w'=>e= .returned (.pointer (some ⟨w.heap.size+2,0,none⟩))/\∃ow' L',CN w' ow' b {M with strs:=M.strs++[{id:=id,inw:=M.window,outw:=M.others}]} L'/\Fr w ow w' ow'/\(L'.s id).sb=w.heap.size+2:=by
 subst hv;refine(opens_any w ow b M L id h hnew hid h0 h1 hn).mono ?_;rintro e w' ⟨he,ow',L',h1,h2,h3,_⟩;exact⟨he,ow',L',h1,h2,h3⟩
theorem headsA_v (hv:v=(id:Int)) (n c:Nat) (fin:Bool) (A:Option Addr) (hs:List Hd.HdrV) (hl:hs.length=n) (h:CN w ow b M L) (hr:Cm.RS hdrC 3 w w.heap.size A n hs) (hA:∀ad,A=some ad->ow ad.block= .no) (hask:M.hp.asked=false) (hz:hszs hs<=16384) (h0:id≠0) (hid:id<=2147483647) (ho:M.out.length<=1000000000)
 (hE:Env w ow):Calls Tryz.prog 60 #[.pointer (some ⟨b,0,none⟩),.int .i64 v,.slice A n c,.bool fin] w (CPostL w ow b L {M with hp:=M.hp.encd (Hk.encP M.hp.et hs).2,out:=M.out++frameB 1 (hfl fin) id (Hk.encP M.hp.et hs).1} (.tuple #[])):=by
 subst hv hl;exact headsA_any w ow b M L id c fin A hs h hE.d hask hr (λad ha hx=>by rw[hA ad ha]at hx;cases hx) hz h0 hid ho
end
theorem fin_opcA (M:Cv) (fin:Bool) (hs:List HdrV) (nx:Nat) (hnx:nxt M=nx) (h0:∀s∈M.strs,s.id≠nx):
 finM {M with hp:=M.hp.encd (Hk.encP M.hp.et hs).2,last:=nx,strs:=M.strs++[({id:=nx,own:=1,inw:=M.window,outw:=M.others}:Sv)],out:=M.out++frameB 1 (hfl fin) nx (Hk.encP M.hp.et hs).1} {id:=nx,own:=1,inw:=M.window,outw:=M.others} fin=opcA M fin hs:=by
 subst hnx;unfold finM opcA;cases fin with
 |false=>rfl
 |true=>
  rw[if_pos rfl,if_neg (show¬(0:Nat)=3 by decide)];have e:=updS_last (l:=M.strs) (s:={id:=nxt M,own:=1,inw:=M.window,outw:=M.others}) (s':={id:=nxt M,own:=3,inw:=M.window,outw:=M.others}) h0 rfl;simp only[if_pos rfl];rw[e]
  rfl
theorem nxt_pos (M:Cv):nxt M≠0:=by unfold nxt;split<;>omega
theorem copenA_ok (w:World) (ow:Nat->Tg) (b:Nat) (M:Cv) (L:Lay) (A:Option Addr) (c:Nat) (hs:List HdrV) (fin:Bool) (hE:Env w ow) (h:CN w ow b M L) (hd:M.dead=false) (hside:M.side=1) (hgone:M.gone=false) (hbye:M.bye=false)
 (hlim:(M.strs.length:Int)<M.limit) (hid:nxt M<=2147483647) (h6:∀s∈M.strs,s.id≠nxt M) (hu:(M.strs.map (·.id)).Nodup) (h0:0<=M.window/\M.window<=2147483647) (h1:0<=M.others/\M.others<=2147483647) (hn:M.strs.length<=100000) (ho:M.out.length<=1000000000)
 (hr:Cm.RS hdrC 3 w w.heap.size A hs.length hs) (h2:∀ad,A=some ad->ow ad.block= .no) (hA:∀ad,A=some ad->ad.block<w.heap.size) (h7:M.hp.asked=false) (he:hs.length<=c) (hsz:hszs hs<=16384) (hop:(openS rules4 hs req0).isSome=true):
 Calls Tryz.prog 29 #[.pointer (some ⟨b,0,none⟩),.slice A hs.length c,.bool fin] w (CPost w ow b (opcA M fin hs) (.tuple #[.int .i64 (nxt M:Nat),.nilIface])):=by
 have HE:=Lib.hid hE;have HC:=Lib.hid h;have HR:=Lib.hid (λW owW (hf:Fr w ow W owW)=>rs_fr hr hf h2);have HH:=Lib.hid (show _/\_/\_/\_/\_/\_/\_ from⟨hid,h6,hu,h0,h1,hn,ho⟩);have h3:=len_of hsz;have hC:=szs_of hsz;have hz:∀x∈hs,x.name.size<=1000000/\x.value.size<=1000000:=λx hx=>by have:=hsize_le hx hsz;omega
 have hD:=Lib.hid (show _/\_/\_ from⟨h7,he,hsz⟩);have hq:=Lib.hid h2;have hS:=Lib.hid hA;clear hA;have hT:=Lib.hid (λn=>(show HeadOk A hs.length c (w.drewN n)from by
  obtain⟨e1,e2,e3,hU⟩:=(hE.fr (Fr.drewN w ow n)).env;exact headOk_of' hU h3 he (rs_fr hr (Fr.drewN w ow n) h2) hC hop))
 have hV:=Lib.hid (λW owW (hf:Fr w ow W owW)=>large_no W A c hs (rs_fr hr hf h2) (by have:=hszs_32 hs;omega) hz hsz);have c19:w.cell? ⟨b,19,none⟩=some (.bool M.dead):=h.blk.cell 19;have c0:w.cell? ⟨b,0,none⟩=some (.int .i64 (M.side:Nat)):=h.blk.cell 0;have c18:w.cell? ⟨b,18,none⟩=some (.bool M.gone):=h.blk.cell 18;have c17:w.cell? ⟨b,17,none⟩=some (.bool M.bye):=h.blk.cell 17;have c14:w.cell? ⟨b,14,none⟩=some (.int .i64 (M.last:Nat)):=h.blk.cell 14;have c15:w.cell? ⟨b,15,none⟩=some (.map (some L.mb)):=h.blk.cell 15;have c12:w.cell? ⟨b,12,none⟩=some (.int .i64 M.limit):=h.blk.cell 12;rw[hd]at c19;rw[hside]at c0;rw[hgone]at c18;rw[hbye]at c17;have hF:=λty (n:Nat)=>(h.drewN n).p.map.len Tryz.underlying74 ty;simp only[List.length_map]at hF;have k1:¬M.limit<=(M.strs.length:Int):=by omega
 have hW:M.last<=2147483647:=by unfold nxt at hid;split at hid<;>omega
 obtain⟨v,hv,kn⟩:∃v:Int,v=(nxt M:Int)/\((M.last=0/\v=1)\/(((M.last:Int)==0)=false/\wrap64 ((M.last:Int)+2)=v/\IntKind.i64.wrap ((M.last:Int)+2)=v)):=by
  refine⟨_,rfl,?_⟩;unfold nxt;by_cases e:M.last=0
  · exact .inl ⟨e,by rw[if_pos e];rfl⟩
  · rw[if_neg e,IntKind.wrap_i64]
    exact .inr ⟨by simp;omega,by unfold wrap64;omega,by omega⟩
 have k2:¬(2147483647:Int)<v:=by omega
 have HV:=Lib.hid hv;have ht:=Lib.hid (nxt_pos M);clear h hd hside hgone hbye hr hlim h6 hu h0 h1 h2 h7 h3 he hz hsz hC hop hE hn ho hv hid hW;generalize hG:nxt M=nx at*
 generalize h3:hs.length=n at*
 generalize hH:M.strs.length=nl at*
 have hX:=Lib.hid hG;have hw:=Lib.hid h3;have hY:=Lib.hid hH;clear hG h3 hH;rcases kn with⟨ka,rfl⟩|⟨ka,kb,kc⟩
 all_goals
  try rw[ka]at c14
  go_enter Tryz.func29,Tryz.ntmps29;go_upto_region 10 with fail;go_quiet (fail);go_wp2_with (first
   |(go_at_call 57
     refine Calls.mono (hT.out _) ?_;rintro e w2 ⟨a1,a2,a3,a4,v,rfl,⟨A',n',c',rfl⟩,hI⟩;have hh:=Lib.hid (show Below w.heap.size w w2 from(bdN (Below.refl _ _) _).trans hI);clear hI)
   |fail)
  have hi:=Lib.hid (hh.out.alloc hh.out.size (.cells #[.string a1,.string a2,.string a3,.string a4,.slice A' n' c'] 115));clear hh;generalize w2.alloc (.cells #[.string a1,.string a2,.string a3,.string a4,.slice A' n' c'] 115)=W3 at*
  refine Calls.mono (hV.out W3 ow (Fr.below hi.out ow)) ?_;rintro e w4 ⟨rfl,hJ⟩;have hK:=Lib.hid (hi.out.trans (hJ.mono hi.out.size));have h9:=Lib.hid (HC.out.below hK.out);have d14:w4.cell? ⟨b,14,none⟩=some (.int .i64 (M.last:Nat)):=h9.out.blk.cell 14;have f14:=h9.out.blk.frozen 14;have hj:=Lib.hid (h9.out.owns HV.out);clear hJ c19 c0 c18 c17 c14 c15 c12 hF k1 k2;go_wp2_with fail;clear d14 f14;refine Calls.mono (opens_v HV.out hj.out.1 HH.out.2.1 HH.out.1 HH.out.2.2.2.1 HH.out.2.2.2.2.1 (by show M.strs.length<=1000000;rw[hY.out];have:=HH.out.2.2.2.2.2.1;omega)) ?_;rintro e w6 ⟨rfl,ow6,L6,hk,hL,hM⟩;rw[<-hM];have hZ:=Lib.hid (((Fr.below hK.out ow).trans hj.out.2).trans hL);have h5:({id:=nx,inw:=M.window,outw:=M.others}:Sv)∈M.strs++[({id:=nx,inw:=M.window,outw:=M.others}:Sv)]:=by simp
  have hl:=hk.p.strs _ h5;have s1:w6.cell? ⟨(L6.s nx).sb,1,none⟩=some (.int .i64 0):=hl.blk.cell 1;have sf:w6.frozen? ⟨(L6.s nx).sb,1,none⟩=false:=hl.blk.frozen 1;have hm:=hk.strcell (s:={id:=nx,inw:=M.window,outw:=M.others}) (s':={id:=nx,own:=1,inw:=M.window,outw:=M.others}) h5 rfl 1 (.int .i64 1) rfl rfl rfl rfl;rw[updS_last (s:={id:=nx,inw:=M.window,outw:=M.others}) (s':={id:=nx,own:=1,inw:=M.window,outw:=M.others}) HH.out.2.1 rfl]at hm;have hN:=Lib.hid hm;have HQ:=Lib.hid (λ(L8:Lay) (h8:L8.s=L6.s)=>(show(L8.s nx).sb=(L6.s nx).sb by rw[h8]));clear hk hL hM h5 hl hm hj h9;generalize (L6.s nx).sb=sb at*
  go_wp2_with fail;clear s1 sf;generalize w6.setCell ⟨sb,1,none⟩ (.int .i64 1)=W7 at*
  have hb:=Lib.hid (hZ.out.trans hN.out.2);refine Calls.mono (headsA_v HV.out n c fin A hs hw.out hN.out.1 (HR.out W7 ow6 hb.out) (λad ha=>hb.out.no _ (hS.out ad ha) (hq.out ad ha)) hD.out.1 hD.out.2.2 ht.out HH.out.1 HH.out.2.2.2.2.2.2 (HE.out.fr hb.out)) ?_;rintro e w8 ⟨ow8,L8,rfl,hO,hP,hQ⟩;have hR:((M.strs++[({id:=nx,own:=1,inw:=M.window,outw:=M.others}:Sv)]).map (·.id)).Nodup:=by
   rw[List.map_append,List.nodup_append];refine⟨HH.out.2.2.1,by simp,λa ha c hc=>?_⟩;obtain⟨x,hx,rfl⟩:=List.mem_map.1 ha;obtain rfl:c=nx:=by simpa using hc
   exact HH.out.2.1 x hx
  have h4:=finishes_any w8 ow8 b _ L8 {id:=nx,own:=1,inw:=M.window,outw:=M.others} fin hO (by simp) rfl HH.out.1 hR;rw[show(L8.s ({id:=nx,own:=1,inw:=M.window,outw:=M.others}:Sv).id).sb=sb from HQ.out L8 hQ,fin_opcA M fin hs nx hX.out HH.out.2.1]at h4;have h4:=Lib.hid h4;have H0:=Lib.hid (hb.out.trans hP);clear hO hP hQ hR;go_wp2_with fail;refine h4.out.mono ?_;intro e w9 hp;obtain rfl:=hp.ret;have HP:=Lib.hid hp;clear hp;go_wp2;go_ret2;obtain⟨ow9,L9,_,H1,H2⟩:=HP.out;exact⟨ow9,L9,congrArg (λx=>Ending.returned (.tuple #[.int .i64 x,.nilIface])) HV.out,H1,H0.out.trans H2⟩
theorem headBad1_of {A:Option Addr} {c:Nat} {hs:List Hd.HdrV} {W:World} {e1 e2 e3:Addr} (he:H6.EnvH W e1 e2 e3) (hn:hs.length<=10000) (hc:hs.length<=c) (hr:Cm.RS hdrC 3 W W.heap.size A hs.length hs) (hz:H6.Szs hs) (ho:(Hd.openS Hd.rules4 hs Hd.req0)=none):
 Calls Tryz.prog 57 #[.slice A hs.length c] W λe W'=>e= .returned (.tuple #[.agg #[.string ⟨#[]⟩,.string ⟨#[]⟩,.string ⟨#[]⟩,.string ⟨#[]⟩,.slice none 0 0],.iface 327 (.pointer (some e1))])/\Below W.heap.size W W':=by
 have h1:H6.Hr W A hs.length hs:=⟨rfl,λj u hu=>by
  rw[hcells_flat]at hu;exact hr.flatc (λ_=>rfl) j u hu⟩
 refine(H6.open_any A hs.length c hs W he (by omega) hc h1 hz).mono ?_;rintro e W' ⟨hb,h2|⟨rest,s,h2,_⟩⟩
 · exact⟨h2.2,hb⟩
 · rw[ho]at h2;cases h2
theorem copenA_bad (w:World) (ow:Nat->Tg) (b:Nat) (M:Cv) (L:Lay) (A:Option Addr) (c:Nat) (hs:List HdrV) (fin:Bool) {e1 e2 e3:Addr} (h0:H6.EnvH w e1 e2 e3) (h:CN w ow b M L) (hd:M.dead=false) (hside:M.side=1) (hgone:M.gone=false) (hbye:M.bye=false)
 (hlim:(M.strs.length:Int)<M.limit) (hid:nxt M<=2147483647)
 (hr:Cm.RS hdrC 3 w w.heap.size A hs.length hs) (h2:hs.length<=c) (hsz:hszs hs<=16384) (h3:(openS rules4 hs req0)=none):
 Calls Tryz.prog 29 #[.pointer (some ⟨b,0,none⟩),.slice A hs.length c,.bool fin] w λe w'=>e= .returned (.tuple #[.int .i64 0,.iface 327 (.pointer (some e1))])/\Below w.heap.size w w':=by
 have h6:=Lib.hid (λn=>headBad1_of (c:=c) (W:=w.drewN n) (h0.below (bdN (Below.refl w.heap.size w) n) h0.room) (len_of hsz) h2 hr (szs_of hsz) h3);have c19:w.cell? ⟨b,19,none⟩=some (.bool M.dead):=h.blk.cell 19;have c0:w.cell? ⟨b,0,none⟩=some (.int .i64 (M.side:Nat)):=h.blk.cell 0;have c18:w.cell? ⟨b,18,none⟩=some (.bool M.gone):=h.blk.cell 18;have c17:w.cell? ⟨b,17,none⟩=some (.bool M.bye):=h.blk.cell 17;have c14:w.cell? ⟨b,14,none⟩=some (.int .i64 (M.last:Nat)):=h.blk.cell 14;have c15:w.cell? ⟨b,15,none⟩=some (.map (some L.mb)):=h.blk.cell 15;have c12:w.cell? ⟨b,12,none⟩=some (.int .i64 M.limit):=h.blk.cell 12;rw[hd]at c19;rw[hside]at c0;rw[hgone]at c18;rw[hbye]at c17;have h7:=λty (n:Nat)=>(h.drewN n).p.map.len Tryz.underlying74 ty;simp only[List.length_map]at h7;have k1:¬M.limit<=(M.strs.length:Int):=by omega
 have h8:M.last<=2147483647:=by unfold nxt at hid;split at hid<;>omega
 obtain⟨v,hv,kn⟩:∃v:Int,v=(nxt M:Int)/\((M.last=0/\v=1)\/(((M.last:Int)==0)=false/\wrap64 ((M.last:Int)+2)=v/\IntKind.i64.wrap ((M.last:Int)+2)=v)):=by
  refine⟨_,rfl,?_⟩;unfold nxt;by_cases e:M.last=0
  · exact .inl ⟨e,by rw[if_pos e];rfl⟩
  · rw[if_neg e,IntKind.wrap_i64]
    exact .inr ⟨by simp;omega,by unfold wrap64;omega,by omega⟩
 have k2:¬(2147483647:Int)<v:=by omega
 clear h hd hside hgone hbye hr hlim h2 hsz h3 hv hid h8 h0;generalize h1:hs.length=n at*
 generalize h9:M.strs.length=nl at*
 clear h1 h9;rcases kn with⟨ka,rfl⟩|⟨ka,kb,kc⟩
 all_goals
  try rw[ka]at c14
  go_enter Tryz.func29,Tryz.ntmps29;go_upto_region 10 with fail;go_quiet (fail);go_wp2_with (first
   |(go_at_call 57
     refine Calls.mono (h6.out _) ?_;rintro e w2 ⟨rfl,h4⟩;have h5:=Lib.hid (show Below w.heap.size w w2 from(bdN (Below.refl _ _) _).trans h4);clear h4)
   |fail)
  go_ret2;exact⟨rfl,h5.out.alloc h5.out.size _⟩
end Go.Proofs.YtkpppjhbmnfmkaaGreatDoor
