/-
  
  
  
-/
import Derived.Test.YtkpppjhbmnfmkaaGreatDoorLh
import Derived.Test.YtkpppjhbmnfmkaaGreatDoorJam
import Derived.Test.YtkpppjhbmnfmkaaGreatDoorJan
import Derived.Test.YtkpppjhbmnfmkaaGreatDoorJbb
import Derived.Test.YtkpppjhbmnfmkaaGreatDoorJbc
import Derived.Test.YtkpppjhbmnfmkaaGreatDoorKp
set_option linter.unusedSimpArgs false
set_option linter.unusedVariables false
section
set_option maxHeartbeats 4000000
set_option maxRecDepth 100000
namespace Go.Proofs.YtkpppjhbmnfmkaaGreatDoor
open Go.RowKit Go.Own Go.Own.Im Go.Own.Cx Go.Own.Fr
theorem may_no (w:World) (g:Nat) (a:Int) (n:Nat) (h:Blk w g 177 #[.int .i64 a]) (he:ErrC w 11) (hn:a<(n:Int)) (h0:0<n):
 Calls Tryz.prog 120 #[.pointer (some ⟨g,0,none⟩),.int .i64 (n:Nat)] w λe w'=>(∃x,e= .returned (ev x))/\w'=w:=by
 obtain⟨x,hx⟩:=he;have c0:w.cell? ⟨g,0,none⟩=some (.int .i64 a):=h.cell 0;have k0:((n:Int)<0)=False:=by simp
 have k1:((0:Int)<(n:Int))=True:=by simp;omega
 have k1':(0<n)=True:=by simp;omega
 have k2:(a<(n:Int))=True:=by simp;omega
 clear h hn h0;go_enter Tryz.func120,Tryz.ntmps120;go_wp2;go_ret;exact⟨⟨x,rfl⟩,rfl⟩
theorem take_no (w:World) (g:Nat) (a:Int) (n:Nat) (h:Blk w g 177 #[.int .i64 a]) (he:ErrC w 11) (hn:a<(n:Int)) (h0:0<n):
 Calls Tryz.prog 121 #[.pointer (some ⟨g,0,none⟩),.int .i64 (n:Nat)] w λe w'=>(∃x,e= .returned (ev x))/\w'=w:=by
 have HM:=Lib.hid (may_no w g a n h he hn h0);clear h hn h0 he;go_enter Tryz.func121,Tryz.ntmps121;go_wp2_with fail;refine HM.out.mono ?_;rintro e w1 ⟨⟨x,rfl⟩,hw⟩;subst w1;simp only[ev];go_wp2;go_ret;exact⟨⟨x,rfl⟩,rfl⟩
theorem data_flow (w:World) (ow:Nat->Tg) (b:Nat) (M:Cv) (L:Lay) (i:Inf) (sv dv:Value) (sz:Nat) (h:CN w ow b M L) (hE:Env w ow) (hk:knownB M i.stream=true) (hid:i.stream<=2147483647) (h0:0<sz) (h2:M.inw<(sz:Int)):
 Calls Tryz.prog 148 #[.pointer (some ⟨b,0,none⟩),.agg (infC i sv dv),.int .i64 (sz:Nat)] w λe w'=>e= .panicked (fltE 3 0)/\Below w.heap.size w w':=by
 have HX:=Lib.hid (Blk.new w 91 (infC i sv dv));have h1:=Lib.hid ((Below.refl w.heap.size w).alloc (Nat.le_refl _) (.cells (infC i sv dv) 91));have HC:=Lib.hid h;have h4:=Lib.hid (idle_ok _ ow b M L i.stream (h.below h1.out) hk (by simp[Lit.wf,IntKind.min,IntKind.max,IntKind.bits,IntKind.signed];omega));have HE:=Lib.hid (hE.fr (Fr.below h1.out ow)).hp.win;have HN:=Lib.hid (And.intro h0 h2);clear h hk hid hE h0 h2;go_enter Tryz.func148,Tryz.ntmps148;go_upto_region 1 with fail;generalize w.alloc (.cells (infC i sv dv) 91)=W0 at*
 have h3:=Lib.hid (HC.out.below h1.out);have x2:W0.cell? ⟨w.heap.size,2,none⟩=some (.int .i64 (i.stream:Nat)):=HX.out.cell 2;have c8:W0.cell? ⟨b,8,none⟩=some (.pointer (some ⟨L.ib,0,none⟩)):=h3.out.blk.cell 8;go_wp2_with fail;refine h4.out.mono ?_;rintro e w1 ⟨rfl,hw⟩;subst w1;have h5:=Lib.hid (take_no W0 L.ib M.inw sz h3.out.p.inw HE.out HN.out.2 HN.out.1);generalize atI (M.strs.map (·.id)) (sptr L) (.pointer none) (i.stream:Int)=v9;go_wp2_with fail;refine h5.out.mono ?_;rintro e w1 ⟨⟨x,rfl⟩,hw⟩;subst w1;simp only[ev];go_wp2_with fail;refine(give_any 3 0 _).mono ?_;rintro e w4 ⟨rfl,hw⟩;subst w4;go_wp2;exact⟨rfl,rfl,h1.out⟩
theorem data_gone (w:World) (ow:Nat->Tg) (b:Nat) (M:Cv) (L:Lay) (i:Inf) (sv dv:Value) (sz:Nat) (h:CN w ow b M L) (hk:knownB M i.stream=true) (hst:strAt M (i.stream:Int)=none) (hid:i.stream<=2147483647) (h4:(sz:Int)<=M.inw\/sz=0) (hsz:sz<=65535) (ha:0<=M.inw/\M.inw<=65535) (ho:M.out.length<=1000000000):
 Calls Tryz.prog 148 #[.pointer (some ⟨b,0,none⟩),.agg (infC i sv dv),.int .i64 (sz:Nat)] w (CPost w ow b {M with out:=M.out++gvB 0 sz} (.tuple #[])):=by
 have HX:=Lib.hid (Blk.new w 91 (infC i sv dv));have h2:=Lib.hid ((Below.refl w.heap.size w).alloc (Nat.le_refl _) (.cells (infC i sv dv) 91));have HC:=Lib.hid h;have h0:=idle_ok _ ow b M L i.stream (h.below h2.out) hk (by simp[Lit.wf,IntKind.min,IntKind.max,IntKind.bits,IntKind.signed];omega);rw[at_none hst]at h0;have h5:=Lib.hid h0;have HN:=Lib.hid (show _/\_/\_/\_ from⟨h4,hsz,ha,ho⟩);clear h hk hst hid h4 hsz ha ho h0;go_enter Tryz.func148,Tryz.ntmps148;go_upto_region 1 with fail;generalize w.alloc (.cells (infC i sv dv) 91)=W0 at*
 have h3:=Lib.hid (HC.out.below h2.out);have x2:W0.cell? ⟨w.heap.size,2,none⟩=some (.int .i64 (i.stream:Nat)):=HX.out.cell 2;have c8:W0.cell? ⟨b,8,none⟩=some (.pointer (some ⟨L.ib,0,none⟩)):=h3.out.blk.cell 8;go_wp2_with fail;refine h5.out.mono ?_;rintro e w1 ⟨rfl,hw⟩;subst w1;have h6:=Lib.hid (take_yes W0 L.ib M.inw sz h3.out.p.inw HN.out.1 (by have:=HN.out.2.2.1;omega) (by have:=HN.out.2.1;omega));go_wp2_with fail;refine h6.out.mono ?_;rintro e w1 ⟨rfl,hw⟩;have h1:=h3.out.inws (M.inw-(sz:Int));rw[<-hw]at h1;have h7:=Lib.hid h1.1;have h8:=Lib.hid ((Fr.below h2.out ow).trans h1.2);have hg:=gives_connG w1 ow b _ L sz h7.out (by have:=HN.out;omega) (show -2147483647<=M.inw-(sz:Int)/\M.inw-(sz:Int)<=2147483647 by have:=HN.out;omega) (show M.inw-(sz:Int)+(sz:Int)<=2147483647 by have:=HN.out;omega) HN.out.2.2.2;rw[show({M with inw:=M.inw-(sz:Int)}:Cv).inw+(sz:Int)=M.inw from Int.sub_add_cancel _ _]at hg;have HG:=Lib.hid hg;clear h1 hw x2 c8 hg;go_wp2_with fail;refine HG.out.mono ?_;rintro e w3 ⟨ow3,L3,rfl,h9,hb,hc⟩;go_wp2;go_end0;exact⟨ow3,L3,rfl,h9,h8.out.trans hb⟩
end Go.Proofs.YtkpppjhbmnfmkaaGreatDoor
end

section
set_option maxHeartbeats 4000000
set_option maxRecDepth 100000
namespace Go.Proofs.YtkpppjhbmnfmkaaGreatDoor
open Go.RowKit Go.Own Go.Own.Im Go.Own.Cx Go.Own.Fr
def shutM (M:Cv) (s:Sv) (c sz:Nat):Cv:=
 let M1:=rstM {M with inw:=M.inw-(sz:Int)} s c
 {M1 with inw:=M1.inw+(sz:Int),out:=M1.out++gvB 0 sz}
theorem data_shut (w:World) (ow:Nat->Tg) (b:Nat) (M:Cv) (L:Lay) (s:Sv) (i:Inf) (sv dv:Value) (sz:Nat) (h:CN w ow b M L) (hE:Env w ow) (hi:i.stream=s.id) (hk:knownB M s.id=true) (h2:strAt M (s.id:Int)=some s) (hid:s.id≠0/\s.id<=2147483647) (h5:(M.strs.map (·.id)).Nodup)
 (h6:(sz:Int)<=M.inw\/sz=0) (hsz:sz<=65535) (ha:0<=M.inw) (hh:M.inw+s.held<=65535) (ho:M.out.length<=900000000) (hn:M.evs.length<=900000) (h7:s.other=3):
 Calls Tryz.prog 148 #[.pointer (some ⟨b,0,none⟩),.agg (infC i sv dv),.int .i64 (sz:Nat)] w (CPost w ow b (shutM M s 5 sz) (.tuple #[])):=by
 have HX:=Lib.hid (Blk.new w 91 (infC i sv dv));have h3:=Lib.hid ((Below.refl w.heap.size w).alloc (Nat.le_refl _) (.cells (infC i sv dv) 91));have HC:=Lib.hid h;have h0:=idle_ok _ ow b M L s.id (h.below h3.out) hk (by simp[Lit.wf,IntKind.min,IntKind.max,IntKind.bits,IntKind.signed];omega);rw[(at_some h2).1]at h0;have he:=Lib.hid h0;have HN:=Lib.hid (show _/\_/\_/\_ from⟨h6,hsz,ha,hh⟩);have HO:=Lib.hid (And.intro ho hn);have HS:=Lib.hid (show _/\_/\_/\_ from⟨h2,hid,h5,(at_some (L:=L) h2).2.1⟩);have hf:=Lib.hid h7;have h8:=Lib.hid hi;have hj:=Lib.hid (h.new w.heap.size (Nat.le_refl _));clear h hk h2 hid h6 hsz ha hh ho hn h0 h5 hi h7 hE;go_enter Tryz.func148,Tryz.ntmps148;go_upto_region 1 with fail;generalize w.alloc (.cells (infC i sv dv) 91)=W0 at*
 have h4:=Lib.hid (HC.out.below h3.out);have x2:W0.cell? ⟨w.heap.size,2,none⟩=some (.int .i64 (i.stream:Nat)):=HX.out.cell 2;rw[h8.out]at x2;have c8:W0.cell? ⟨b,8,none⟩=some (.pointer (some ⟨L.ib,0,none⟩)):=h4.out.blk.cell 8;go_wp2_with fail;refine he.out.mono ?_;rintro e w1 ⟨rfl,hw⟩;subst w1;have hl:=Lib.hid (take_yes W0 L.ib M.inw sz h4.out.p.inw HN.out.1 (by have:=HN.out;omega) (by have:=HN.out.2.1;omega));go_wp2_with fail;refine hl.out.mono ?_;rintro e w1 ⟨rfl,hw⟩;have h1:=h4.out.inws (M.inw-(sz:Int));rw[<-hw]at h1;have h9:=Lib.hid h1.1;have hm:=Lib.hid ((Fr.below h3.out ow).trans h1.2);have hq:=Lib.hid (h1.2.blk HX.out hj.out);have hb:=h9.out.p.strs s HS.out.2.2.2;have d2:w1.cell? ⟨(L.s s.id).sb,2,none⟩=some (.int .i64 (s.other:Nat)):=hb.blk.cell 2;rw[hf.out]at d2;have y2:w1.cell? ⟨w.heap.size,2,none⟩=some (.int .i64 (i.stream:Nat)):=hq.out.cell 2;rw[h8.out]at y2;have hs:=Lib.hid (faulty_rst w1 ow b {M with inw:=M.inw-(sz:Int)} L 5 s h9.out HS.out.1 HS.out.2.1 HS.out.2.2.1 (by have:=HN.out;omega) (show -2147483647<=M.inw-(sz:Int)/\M.inw-(sz:Int)<=2147483647 by have:=HN.out;omega) (show M.inw-(sz:Int)+s.held<=2147483647 by have:=HN.out;omega) (by decide) HO.out.1 HO.out.2);clear h1 hw x2 c8 hb;go_wp2_with fail;refine hs.out.mono ?_;intro e w2 hp;obtain rfl:=hp.ret;obtain⟨ow2,L2,_,hc,hd⟩:=hp;have ht:=Lib.hid hc;have hu:=Lib.hid (hm.out.trans hd);have HG:=Lib.hid (gives_connG w2 ow2 b _ L2 sz ht.out (by have:=HN.out;omega) (show -2147483647<=M.inw-(sz:Int)+s.held/\M.inw-(sz:Int)+s.held<=2147483647 by have:=HN.out;omega) (show M.inw-(sz:Int)+s.held+(sz:Int)<=2147483647 by have:=HN.out;omega) (show(M.out++frameB 3 0 s.id (be 5 4)++gvB 0 s.held).length<=1000000000 by have:=HO.out.1;have:=gvB_len 0 s.held;simp only[List.length_append,frameB_len,be_len];omega));clear hc hd d2 y2;go_wp2_with fail;refine HG.out.mono ?_;rintro e w3 ⟨ow3,L3,rfl,hA,hC,hD⟩;go_wp2;go_end0;exact⟨ow3,L3,rfl,hA,hu.out.trans hC⟩
theorem data_over (w:World) (ow:Nat->Tg) (b:Nat) (M:Cv) (L:Lay) (s:Sv) (i:Inf) (sv dv:Value) (sz:Nat) (h:CN w ow b M L) (hE:Env w ow) (hi:i.stream=s.id) (hk:knownB M s.id=true) (h2:strAt M (s.id:Int)=some s) (hid:s.id≠0/\s.id<=2147483647) (h7:(M.strs.map (·.id)).Nodup)
 (h8:(sz:Int)<=M.inw\/sz=0) (hsz:sz<=65535) (ha:0<=M.inw) (hh:M.inw+s.held<=65535) (ho:M.out.length<=900000000) (hn:M.evs.length<=900000) (h9:s.other=1/\0<sz/\s.inw<(sz:Int)):
 Calls Tryz.prog 148 #[.pointer (some ⟨b,0,none⟩),.agg (infC i sv dv),.int .i64 (sz:Nat)] w (CPost w ow b (shutM M s 3 sz) (.tuple #[])):=by
 have HX:=Lib.hid (Blk.new w 91 (infC i sv dv));have h4:=Lib.hid ((Below.refl w.heap.size w).alloc (Nat.le_refl _) (.cells (infC i sv dv) 91));have HC:=Lib.hid h;have h0:=idle_ok _ ow b M L s.id (h.below h4.out) hk (by simp[Lit.wf,IntKind.min,IntKind.max,IntKind.bits,IntKind.signed];omega);rw[(at_some h2).1]at h0;have hl:=Lib.hid h0;have HN:=Lib.hid (show _/\_/\_/\_ from⟨h8,hsz,ha,hh⟩);have HO:=Lib.hid (And.intro ho hn);have HS:=Lib.hid (show _/\_/\_/\_ from⟨h2,hid,h7,(at_some (L:=L) h2).2.1⟩);have h5:=Lib.hid h9;have hb:=Lib.hid hi;have hm:=Lib.hid (h.new w.heap.size (Nat.le_refl _));have hq:=Lib.hid (show∀W,Fr w ow W ow->ErrC W 11 fromλW hf=>(hE.fr hf).hp.win);clear h hk h2 hid h8 hsz ha hh ho hn h0 h7 hi h9 hE;go_enter Tryz.func148,Tryz.ntmps148;go_upto_region 1 with fail;generalize w.alloc (.cells (infC i sv dv) 91)=W0 at*
 have h6:=Lib.hid (HC.out.below h4.out);have x2:W0.cell? ⟨w.heap.size,2,none⟩=some (.int .i64 (i.stream:Nat)):=HX.out.cell 2;rw[hb.out]at x2;have c8:W0.cell? ⟨b,8,none⟩=some (.pointer (some ⟨L.ib,0,none⟩)):=h6.out.blk.cell 8;go_wp2_with fail;refine hl.out.mono ?_;rintro e w1 ⟨rfl,hw⟩;subst w1;have hs:=Lib.hid (take_yes W0 L.ib M.inw sz h6.out.p.inw HN.out.1 (by have:=HN.out;omega) (by have:=HN.out.2.1;omega));go_wp2_with fail;refine hs.out.mono ?_;rintro e w1 ⟨rfl,hw⟩;have h1:=h6.out.inws (M.inw-(sz:Int));rw[<-hw]at h1;have hc:=Lib.hid h1.1;have hd:=Lib.hid ((Fr.below h4.out ow).trans h1.2);have ht:=Lib.hid (h1.2.blk HX.out hm.out);have h3:=hc.out.p.strs s HS.out.2.2.2;have d2:w1.cell? ⟨(L.s s.id).sb,2,none⟩=some (.int .i64 (s.other:Nat)):=h3.blk.cell 2;rw[h5.out.1]at d2;have d3:w1.cell? ⟨(L.s s.id).sb,3,none⟩=some (.pointer (some ⟨(L.s s.id).ib,0,none⟩)):=h3.blk.cell 3;have hu:=Lib.hid (take_no w1 (L.s s.id).ib s.inw sz h3.inw (hq.out w1 hd.out) h5.out.2.2 h5.out.2.1);have y2:w1.cell? ⟨w.heap.size,2,none⟩=some (.int .i64 (i.stream:Nat)):=ht.out.cell 2;rw[hb.out]at y2;have hA:=Lib.hid (faulty_rst w1 ow b {M with inw:=M.inw-(sz:Int)} L 3 s hc.out HS.out.1 HS.out.2.1 HS.out.2.2.1 (by have:=HN.out;omega) (show -2147483647<=M.inw-(sz:Int)/\M.inw-(sz:Int)<=2147483647 by have:=HN.out;omega) (show M.inw-(sz:Int)+s.held<=2147483647 by have:=HN.out;omega) (by decide) HO.out.1 HO.out.2);clear h1 hw x2 c8 h3;go_wp2_with fail;refine hu.out.mono ?_;rintro e w1b ⟨⟨xe,rfl⟩,hw⟩;subst w1b;simp only[ev];go_wp2_with fail;refine hA.out.mono ?_;intro e w2 hp;obtain rfl:=hp.ret;obtain⟨ow2,L2,_,he,hj⟩:=hp;have hC:=Lib.hid he;have hD:=Lib.hid (hd.out.trans hj);have HG:=Lib.hid (gives_connG w2 ow2 b _ L2 sz hC.out (by have:=HN.out;omega) (show -2147483647<=M.inw-(sz:Int)+s.held/\M.inw-(sz:Int)+s.held<=2147483647 by have:=HN.out;omega) (show M.inw-(sz:Int)+s.held+(sz:Int)<=2147483647 by have:=HN.out;omega) (show(M.out++frameB 3 0 s.id (be 3 4)++gvB 0 s.held).length<=1000000000 by have:=HO.out.1;have:=gvB_len 0 s.held;simp only[List.length_append,frameB_len,be_len];omega));clear he hj d2 y2;go_wp2_with fail;refine HG.out.mono ?_;rintro e w3 ⟨ow3,L3,rfl,hF,hG,hH⟩;go_wp2;go_end0;exact⟨ow3,L3,rfl,hF,hD.out.trans hG⟩
end Go.Proofs.YtkpppjhbmnfmkaaGreatDoor
end

section
namespace Go.Proofs.YtkpppjhbmnfmkaaGreatDoor
open Go.RowKit Go.Own Go.Own.Im Go.Own.Cx Go.Own.Fr
def nf (M:Cv):Cv:={M with evs:=[],fed:=[],hp:={dt:=M.hp.dt,dgone:=M.hp.dgone}}
def mkC (K:Cv) (E:List EvV) (r:List UInt8) (a:Hk.TM) (b:Bool) (c:Nat):Cv:={K with evs:=E,fed:=r,hp:={dt:=K.hp.dt,dgone:=K.hp.dgone,et:=a,asked:=b,least:=c}}
theorem nf_open {M K:Cv} (h:nf M=K):∃a b c,M=mkC K M.evs M.fed a b c:=by
 subst h;exact⟨M.hp.et,M.hp.asked,M.hp.least,rfl⟩
inductive Ks where
 |up (K:Cv)
 |down (out:List UInt8) (code:Nat)
def Ks.is:Ks->Cv->Prop
 | .up K,M=>nf M=K/\M.dead=false
 | .down o c,M=>M.dead=true/\M.out=o/\M.code=c/\M.strs=[]
def BehS (Q:Ks) (new:List EvV) (M M':Cv):Prop:=Q.is M'/\M'.evs.map enE=M.evs.map enE++new/\(M'.dead=false->M'.fed=M.fed)
def heldS (l:List Sv):Int:=(l.map λs=>(s.held:Int)).sum
theorem heldS_nil:heldS []=0:=rfl
theorem heldS_cons (s:Sv) (l:List Sv):heldS (s::l)=s.held+heldS l:=by simp[heldS]
theorem heldS_append (l k:List Sv):heldS (l++k)=heldS l+heldS k:=by simp[heldS,List.sum_append]
theorem heldS_nonneg (l:List Sv):0<=heldS l:=by
 induction l with
 |nil=>simp[heldS]
 |cons s l ih=>rw[heldS_cons];omega
theorem held_le {l:List Sv} {s:Sv} (h:s∈l):(s.held:Int)<=heldS l:=by
 induction l with
 |nil=>cases h
 |cons x l ih=>
  rw[heldS_cons];rcases List.mem_cons.1 h with rfl|h
  · have:=heldS_nonneg l;omega
  · have:=ih h;omega
theorem filter_other {l:List Sv} {i:Nat} (h:∀x∈l,x.id≠i):(l.filter λx=>x.id != i)=l:=List.filter_eq_self.2 λx hx=>by simp[h x hx]
theorem heldS_filter {l:List Sv} {s:Sv} (h0:(l.map (·.id)).Nodup) (h:s∈l):heldS (l.filter λx=>x.id != s.id)=heldS l-s.held:=by
 induction l with
 |nil=>cases h
 |cons x l ih=>
  rw[List.map_cons,List.nodup_cons]at h0;rcases List.mem_cons.1 h with rfl|h
  · rw[List.filter_cons_of_neg (by simp),filter_other λx hx e=>h0.1 (List.mem_map.2 ⟨x,hx,e⟩),heldS_cons]
    omega
  · have hne:x.id≠s.id:=λe=>h0.1 (List.mem_map.2 ⟨s,h,e.symm⟩)
    rw[List.filter_cons_of_pos (by simp[hne]),heldS_cons,heldS_cons,ih h0.2 h];omega
theorem updS_other {l:List Sv} {s:Sv} (h:∀x∈l,x.id≠s.id):updS l s=l:=by
 unfold updS
 conv=>rhs;rw[<-List.map_id l]
 exact List.map_congr_left λx hx=>if_neg (h x hx)
theorem heldS_upd {l:List Sv} {s s':Sv} (h0:(l.map (·.id)).Nodup) (h:s∈l) (hid:s'.id=s.id):heldS (updS l s')=heldS l-s.held+s'.held:=by
 induction l with
 |nil=>cases h
 |cons x l ih=>
  rw[List.map_cons,List.nodup_cons]at h0;have e:updS (x::l) s'=(if x.id=s'.id then s' else x)::updS l s':=rfl;rw[e,heldS_cons,heldS_cons];rcases List.mem_cons.1 h with rfl|h
  · rw[if_pos hid.symm,updS_other λy hy e=>h0.1 (List.mem_map.2 ⟨y,hy,e.trans hid⟩)]
    omega
  · have hne:x.id≠s'.id:=λe=>h0.1 (List.mem_map.2 ⟨s,h,(e.trans hid).symm⟩)
    rw[if_neg hne,ih h0.2 h];omega
theorem heldS_map {l:List Sv} {g:Sv->Sv} (h:∀s,(g s).held=s.held):heldS (l.map g)=heldS l:=by
 unfold heldS;rw[List.map_map];exact congrArg List.sum (List.map_congr_left λs _=>by simp[h])
structure StrOk (window others:Int) (acked:Bool) (s:Sv):Prop where
 own:s.own=0
 waits:s.waits=[]
 trails:s.trails=false
 other:s.other=1\/s.other=3
 inw:s.inw+s.held<=window
 low: -65535<=s.inw
 low0:acked=false->0<=s.inw
 outw:others<=s.outw/\s.outw<=2147483647
structure Live (n:Nat) (K:Cv):Prop where
 dead:K.dead=false
 side:K.side=1\/K.side=2
 dg:K.hp.dgone=false
 cw:0<=K.cw/\K.cw<=2147483647
 bye:K.bye=false
 pref:K.preface<=24
 ids:(K.strs.map (·.id)).Pairwise (·<·)
 idb:∀s∈K.strs,s.id % 2=1/\s.id<=K.last
 last:K.last<=2147483647
 cl:K.side=1->K.strs=[]/\K.last=0
 cll:K.side=1->K.list=none
 win:0<=K.window/\K.window<=2147483647
 win0:K.acked=false->K.window=65535
 oth:0<=K.others/\K.others<=2147483647
 inw:0<=K.inw/\K.inw+heldS K.strs=65535
 str:∀s∈K.strs,StrOk K.window K.others K.acked s
 outw:0<=K.outw/\K.outw<=2147483647
 list:∀q,K.list=some q->q.1 % 2=1/\q.1<=2147483647/\q.2.2.length<=16384
 greet:K.greeted=false->K.list=none
 out:K.out.length<=1000+100*n
 len:K.strs.length<=n
theorem nodup_of_rising {l:List Nat} (h:l.Pairwise (·<·)):l.Nodup:=h.imp λh=>Nat.ne_of_lt h
section
variable {n:Nat} {K:Cv}
theorem Live.nd (h:Live n K):(K.strs.map (·.id)).Nodup:=nodup_of_rising h.ids
theorem Live.nf (h:Live n K):Live n (nf K):=⟨h.dead,h.side,h.dg,h.cw,h.bye,h.pref,h.ids,h.idb,h.last,h.cl,h.cll,h.win,h.win0,h.oth,h.inw,h.str,h.outw,h.list,h.greet,h.out,h.len⟩
theorem Live.more (h:Live n K):Live (n+1) K:={h with out:=by have:=h.out;omega,len:=by have:=h.len;omega}
theorem Live.held (h:Live n K) {s:Sv} (hs:s∈K.strs):s.held<=65535/\K.inw+s.held<=65535:=by
 have h1:=held_le hs;have h2:=h.inw;omega
theorem Live.at (h:Live n K) {id:Nat} {s:Sv} (hs:strAt K (id:Int)=some s):s.id=id/\s∈K.strs:=by
 unfold strAt at hs;have h1:=List.find?_some hs;simp only[decide_eq_true_eq]at h1;exact⟨by omega,List.mem_of_find?_eq_some hs⟩
theorem Live.known (h:Live n K) {s:Sv} (hs:s∈K.strs):knownB K s.id=true:=decide_eq_true (h.idb s hs)
theorem Live.greets (h:Live n K):Live n {K with greeted:=true}:={h with greet:=λhc=>by cases hc}
theorem Live.puts (h:Live n K) {x:List UInt8} (hx:x.length<=90):Live (n+1) {K with out:=K.out++x}:={h.more with out:=by have:=h.out;simp;omega}
theorem Live.leaves (h:Live n K) {s:Sv} (hs:s∈K.strs) {x:List UInt8} (hx:x.length<=70):Live (n+1) (leaveM {K with out:=K.out++x} s):=
 {h.more with
  ids:=(h.ids.sublist (List.Sublist.map _ List.filter_sublist):((K.strs.filter λz=>z.id != s.id).map (·.id)).Pairwise (·<·))
  idb:=λz hz=>h.idb z (List.mem_filter.1 hz).1
  cl:=λhc=>by have:=(h.cl hc).1;rw[this]at hs;cases hs
  inw:=by
   have h1:=h.inw;have h2:=heldS_filter h.nd hs;have h3:=h.held hs;show 0<=K.inw+(s.held:Int)/\K.inw+(s.held:Int)+heldS (K.strs.filter λz=>z.id != s.id)=65535;omega
  str:=λz hz=>h.str z (List.mem_filter.1 hz).1
  out:=by
   have:=h.out;have:=gvB_len 0 s.held;show((K.out++x)++gvB 0 s.held).length<=_;simp only[List.length_append];omega
  len:=Nat.le_trans (List.length_filter_le _ _) h.more.len}
theorem updS_in {l:List Sv} {s' z:Sv} (h:z∈updS l s'):z=s'\/z∈l:=by
 obtain⟨x,hx,rfl⟩:=List.mem_map.1 h
 split
 · exact .inl rfl
 · exact .inr hx
theorem Live.turns (h:Live n K) {s s':Sv} (hs:s∈K.strs) (hid:s'.id=s.id) (hok:StrOk K.window K.others K.acked s') {i:Int} (hi:0<=i/\i+(heldS K.strs-s.held+s'.held)=65535) {x:List UInt8} (hx:x.length<=90):
 Live (n+1) {K with strs:=updS K.strs s',inw:=i,out:=K.out++x}:=
 {h.more with
  ids:=(by rw[updS_ids];exact h.ids:((updS K.strs s').map (·.id)).Pairwise (·<·))
  idb:=λz hz=>by
   rcases updS_in hz with rfl|hz
   · rw[hid];exact h.idb s hs
   · exact h.idb z hz
  cl:=λhc=>by have:=(h.cl hc).1;rw[this]at hs;cases hs
  inw:=(by rw[heldS_upd h.nd hs hid];exact hi:0<=i/\i+heldS (updS K.strs s')=65535)
  str:=λz hz=>by
   rcases updS_in hz with rfl|hz
   · exact hok
   · exact h.str z hz
  out:=by have:=h.out;simp;omega
  len:=(by unfold updS;rw[List.length_map];exact h.more.len:(updS K.strs s').length<=n+1)}
theorem Live.lasts (h:Live n K) (h2:K.side=2) {id:Nat} (hid:id<=2147483647) (hk:knownB K id=false) (ho:id % 2=1) {x:List UInt8} (hx:x.length<=90):Live (n+1) {K with last:=id,out:=K.out++x}:=
 {h.more with
  idb:=λz hz=>⟨(h.idb z hz).1,by
   have h1:=(h.idb z hz).2;have h3:=of_decide_eq_false hk;show z.id<=id;omega⟩
  last:=hid
  cl:=λhc=>by have hc:K.side=1:=hc;omega
  out:=by have:=h.out;simp;omega}
theorem Live.opened (h:Live n K) (h2:K.side=2) {id:Nat} (hid:id<=2147483647) (hk:knownB K id=false) (ho:id % 2=1) (fin:Bool):Live (n+1) {K with last:=id,strs:=K.strs++[endS {id:=id,other:=1,inw:=K.window,outw:=K.others} fin]}:=by
 have h4:∀z∈K.strs,z.id<id:=λz hz=>by
  have h1:=(h.idb z hz).2;have h3:=of_decide_eq_false hk;omega
 have h0:(endS {id:=id,other:=1,inw:=K.window,outw:=K.others} fin).id=id:=by cases fin<;>rfl
 have h5:(endS {id:=id,other:=1,inw:=K.window,outw:=K.others} fin).held=0:=by cases fin<;>rfl
 have hw:=h.win;have h7:=h.oth;have h6:StrOk K.window K.others K.acked (endS {id:=id,other:=1,inw:=K.window,outw:=K.others} fin):=by
  cases fin
  · exact⟨rfl,rfl,rfl,.inl rfl,by simp[endS],by simp[endS];omega,λ_=>by simp[endS];omega,by simp[endS];omega⟩
  · exact⟨rfl,rfl,rfl,.inr rfl,by simp[endS],by simp[endS];omega,λ_=>by simp[endS];omega,by simp[endS];omega⟩
 exact{h.more with
  ids:=(by
   rw[List.map_append,List.pairwise_append];refine⟨h.ids,by simp,λa ha c hc=>?_⟩;obtain⟨z,hz,rfl⟩:=List.mem_map.1 ha;obtain rfl:c=(endS {id:=id,other:=1,inw:=K.window,outw:=K.others} fin).id:=by simpa using hc
   rw[h0];exact h4 z hz:((K.strs++[endS {id:=id,other:=1,inw:=K.window,outw:=K.others} fin]).map (·.id)).Pairwise (·<·))
  idb:=λz hz=>by
   rcases List.mem_append.1 hz with hz|hz
   · exact⟨(h.idb z hz).1,Nat.le_of_lt (h4 z hz)⟩
   · rw[List.mem_singleton.1 hz,h0]
     exact⟨ho,Nat.le_refl _⟩
  last:=hid
  cl:=λhc=>by have hc:K.side=1:=hc;omega
  inw:=(by
   rw[heldS_append,heldS_cons,heldS_nil,h5];have:=h.inw;omega:0<=K.inw/\K.inw+heldS (K.strs++[endS {id:=id,other:=1,inw:=K.window,outw:=K.others} fin])=65535)
  str:=λz hz=>by
   rcases List.mem_append.1 hz with hz|hz
   · exact h.str z hz
   · rw[List.mem_singleton.1 hz]
     exact h6
  len:=(by rw[List.length_append];have:=h.len;simp;omega:(K.strs++[endS {id:=id,other:=1,inw:=K.window,outw:=K.others} fin]).length<=n+1)}
theorem Live.lists (h:Live n K) (hg:K.greeted=true) (h2:K.side=2) {id:Nat} {fin:Bool} {l:List UInt8} (ho:id % 2=1) (hid:id<=2147483647) (hl:l.length<=16384):Live n {K with list:=some (id,fin,l)}:=
 {h with
  cll:=λhc=>by have hc:K.side=1:=hc;omega
  list:=λq hq=>by injection hq with hq;subst hq;exact⟨ho,hid,hl⟩
  greet:=λhc=>by have hc:K.greeted=false:=hc;rw[hg]at hc;cases hc}
theorem Live.unlists (h:Live n K) (t:Hk.TM):Live n {K with list:=none,hp:=K.hp.turned t}:=
 {h with
  cll:=λ_=>rfl
  list:=λq hq=>by cases hq
  greet:=λ_=>rfl}
end
end Go.Proofs.YtkpppjhbmnfmkaaGreatDoor
end
