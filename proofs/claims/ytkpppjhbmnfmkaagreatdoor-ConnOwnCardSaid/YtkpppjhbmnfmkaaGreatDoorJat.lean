/-
  
  
  
  
-/
import Derived.Test.YtkpppjhbmnfmkaaGreatDoorF6
import Derived.BigQuiet
import Derived.Test.YtkpppjhbmnfmkaaGreatDoorJas
import Derived.Test.YtkpppjhbmnfmkaaGreatDoorF3
import Derived.Test.YtkpppjhbmnfmkaaGreatDoorF7
import Derived.Test.YtkpppjhbmnfmkaaGreatDoorJal
set_option linter.unusedSimpArgs false
set_option linter.unusedVariables false
section
set_option maxHeartbeats 4000000
set_option maxRecDepth 100000
namespace Go.Proofs.YtkpppjhbmnfmkaaGreatDoor
open Go.RowKit Go.Own Go.Own.Im Go.Own.Cx Go.Own.Fr
theorem CN.begins {w:World} {ow:Nat->Tg} {b:Nat} {M:Cv} {L:Lay} (h:CN w ow b M L) (id:Nat) (fin:Bool):
 CN ((w.alloc (.cells #[.int .i64 (id:Nat),.bool fin,.slice none 0 0] 195)).setCell ⟨b,16,none⟩ (.pointer (some ⟨w.heap.size,0,none⟩))) (upd ow w.heap.size .lst) b {M with list:=some (id,fin,[])} {L with list:=.pointer (some ⟨w.heap.size,0,none⟩)}/\
 Fr w ow ((w.alloc (.cells #[.int .i64 (id:Nat),.bool fin,.slice none 0 0] 195)).setCell ⟨b,16,none⟩ (.pointer (some ⟨w.heap.size,0,none⟩))) (upd ow w.heap.size .lst):=by
 have h0:ow w.heap.size= .no:=h.new _ (Nat.le_refl _);have hb:=(Below.refl w.heap.size w).alloc (Nat.le_refl _) (.cells #[.int .i64 (id:Nat),.bool fin,.slice none 0 0] 195);have h1:=(h.below hb).tag h0 (by simp) .lst;have h2:=h1.cell (M':={M with list:=some (id,fin,[])}) (L':={L with list:=.pointer (some ⟨w.heap.size,0,none⟩)}) 16 (.pointer (some ⟨w.heap.size,0,none⟩)) rfl
  ⟨h1.p.fed,h1.p.out,h1.p.ev,h1.p.inw,h1.p.ti,h1.p.outw,h1.p.tu,h1.p.map,h1.p.tm,h1.p.strs,⟨w.heap.size,.slice none 0 0,rfl,upd_same _ _ _,Blk.new w 195 _,Oz.nil _ _⟩,h1.p.enc,h1.p.dec⟩
 exact⟨h2.1,(Fr.belowTag hb ow (Nat.le_refl _) .lst).trans h2.2⟩
theorem works1_any (w:World) (ow:Nat->Tg) (b g:Nat) (M:Cv) (S:Cv->Prop) (L:Lay) (i:Inf) (sv dv sz:Value) (h:CN w ow b M L) (hg:Blk w g 26 #[.pointer (some ⟨b,0,none⟩)]) (h4:ow g= .no) (h0:M.side=2) (hid:i.stream % 2=1)
 (hp:∀W ow' L',CN W ow' b {M with list:=some (i.stream,i.endd,[])} L'->Fr w ow W ow'->Calls Tryz.prog 150 #[.pointer (some ⟨b,0,none⟩),.agg (infC i sv dv)] W (CPostS W ow' b S (.tuple #[]))):
 Calls Tryz.prog 149 #[.agg (infC i sv dv),sz,.pointer (some ⟨g,0,none⟩)] w (CPostS w ow b S (.tuple #[])):=by
 have HX:=Lib.hid (Blk.new w 91 (infC i sv dv));have h3:=Lib.hid ((Below.refl w.heap.size w).alloc (Nat.le_refl _) (.cells (infC i sv dv) 91));have HC:=Lib.hid h;have HG:=Lib.hid hg;have h9:=Lib.hid h4;have HP:=Lib.hid hp;have hm:((i.stream:Int).tmod 2)=1:=by
  have:((i.stream:Int).tmod 2)=((i.stream % 2:Nat):Int):=rfl;rw[this,hid];rfl
 have hf:((i.stream:Int) % 2)=1:=by
  have:((i.stream:Int) % 2)=((i.stream % 2:Nat):Int):=rfl;rw[this,hid];rfl
 have HS:=Lib.hid h0;clear h hg h4 hp h0;go_enter Tryz.func149,Tryz.ntmps149;go_upto_region 1 with fail;generalize w.alloc (.cells (infC i sv dv) 91)=W0 at*
 have h2:=Lib.hid (HC.out.below h3.out);have h5:=Lib.hid (HG.out.below h3.out HG.out.lt);have c0:W0.cell? ⟨b,0,none⟩=some (.int .i64 (M.side:Nat)):=h2.out.blk.cell 0;rw[HS.out]at c0;have g0:W0.cell? ⟨g,0,none⟩=some (.pointer (some ⟨b,0,none⟩)):=h5.out.cell 0;have x2:W0.cell? ⟨w.heap.size,2,none⟩=some (.int .i64 (i.stream:Nat)):=HX.out.cell 2;have x3:W0.cell? ⟨w.heap.size,3,none⟩=some (.bool i.endd):=HX.out.cell 3;go_upto_region 3 with fail;have HN:=Lib.hid (h2.out.begins i.stream i.endd);have f16:(W0.alloc (.cells #[.int .i64 (i.stream:Nat),.bool i.endd,.slice none 0 0] 195)).frozen? ⟨b,16,none⟩=false:=(h2.out.blk.alloc _).frozen 16;have y16:(W0.alloc (.cells #[.int .i64 (i.stream:Nat),.bool i.endd,.slice none 0 0] 195)).cell? ⟨b,16,none⟩=some L.list:=(h2.out.blk.alloc _).cell 16;go_upto_region 4 with fail;have hb:=Lib.hid HN.out.1;have h6:=Lib.hid ((Fr.below h3.out ow).trans HN.out.2);have h7:g≠b:=λe=>by have h1:=h9.out;rw[e,HC.out.tb]at h1;cases h1
 have h8:w.heap.size≠b:=by have:=HC.out.blk.lt;omega
 have hc:=Lib.hid ((h5.out.alloc (.cells #[.int .i64 (i.stream:Nat),.bool i.endd,.slice none 0 0] 195)).far (p:=⟨b,16,none⟩) h7 (.pointer (some ⟨W0.heap.size,0,none⟩)));have hd:=Lib.hid ((HX.out.alloc (.cells #[.int .i64 (i.stream:Nat),.bool i.endd,.slice none 0 0] 195)).far (p:=⟨b,16,none⟩) h8 (.pointer (some ⟨W0.heap.size,0,none⟩)));clear h7 h8 f16 y16 HN c0 g0 x2 x3;generalize (W0.alloc (.cells #[.int .i64 (i.stream:Nat),.bool i.endd,.slice none 0 0] 195)).setCell ⟨b,16,none⟩ (.pointer (some ⟨W0.heap.size,0,none⟩))=W1 at*
 have g0:W1.cell? ⟨g,0,none⟩=some (.pointer (some ⟨b,0,none⟩)):=hc.out.cell 0;have he:=Lib.hid (show(Tryz.prog.info? 91).map (·.size)=some (infC i sv dv).size from infSize);go_wp2_with (first
  |(refine wpList_rowGet _ rfl (.tmp 3) 91 rfl w.heap.size 91 _ rfl hd.out _ Tryz.underlying91 rfl he.out ?_)
  |fail)
 refine(HP.out W1 _ _ hb.out h6.out).mono ?_;intro e w2 hp;obtain rfl:=hp.ret;have HQ:=Lib.hid hp;clear hp;go_wp2;go_end0;exact HQ.out.trans h6.out
end Go.Proofs.YtkpppjhbmnfmkaaGreatDoor
end

section
namespace Go.Proofs.YtkpppjhbmnfmkaaGreatDoor
open Go.RowKit Go.Own Go.Own.Im Go.Own.Cx Go.Own.Fr Go.Own.Hd
theorem enter_settings:Enters Tryz.prog 155:=enters_of Tryz.func155 (by kernel_rfl) rfl
theorem enter_works1:Enters Tryz.prog 149:=enters_of Tryz.func149 (by kernel_rfl) rfl
theorem enter_cdata:Enters Tryz.prog 148:=enters_of Tryz.func148 (by kernel_rfl) rfl
def setM (M:Cv):Cv:={M with greeted:=true,out:=M.out++frameB 4 1 0 [],evs:=M.evs++[{kind:=7}]}
theorem takes_set (M:Cv) (hl:M.list=none) (ho:M.out.length<=1000000000) (hn:M.evs.length<=900000):TakesT M 4 0 0 [] (λM'=>M'=setM M):=by
 intro w ow b L A c hE h hr h0 hc;have h1:opn 4 0 0 []= .ok {typ:=4}:=opn_set [] (by simp);refine takes_any w ow b M L _ 4 0 0 155 #[.pointer (some ⟨b,0,none⟩)] (λ_=>#[]) A 0 c [] {typ:=4} h hr h0 hc (by decide) (by decide) (by decide) (by decide) rfl (by decide) hl (by decide) (.inr ⟨rfl,by decide⟩) h1 (λg=>rfl) enter_settings (λe w' hq=>.inl hq.ret) ?_;intro W g sv dv h2 h3 h4 hg hs hd;obtain⟨A5,c5,rfl,_⟩:=hs.form;exact(settings_none W ow b {M with greeted:=true} L {typ:=4} A5 c5 dv (.int .i64 (0:Nat)) h2 rfl ho hn).mono λe w' hp=>⟨_,rfl,hp.trans h3⟩
theorem takes_heads (M:Cv) (S:Cv->Prop) (id:Nat) (fin:Bool) (l:List UInt8) (hs:List HdrV) (ht:Ix l hs) (h7:l.length<=100) (hg:M.greeted=true) (hu:M.hp.dgone=false) (hl:M.list=none) (h2:M.side=2) (h8:id % 2=1) (hk:knownB M id=false) (h9:strAt M (id:Int)=none) (hid:id<=2147483647)
 (hop:∀W ow b L A c,Env W ow->CN W ow b M L->hs.length<=c->Cm.RS hdrC 3 W W.heap.size A hs.length hs->(0<hs.length->∀ad,A=some ad->ow ad.block= .evd)->Calls Tryz.prog 196 #[.pointer (some ⟨b,0,none⟩),.int .i64 (id:Nat),.slice A hs.length c,.bool fin] W (CPostS W ow b S (.tuple #[]))):
 TakesT M 1 ((if fin then 1 else 0)|||(if true then 4 else 0)) id l S:=by
 intro w ow b L A c hE h hr hw hc;have he:id≠0:=by omega
 have hM:({M with greeted:=true,list:=none}:Cv)=M:=by
  cases M;simp only at hg hl;subst hg hl
  rfl
 refine takes_any w ow b M L _ 1 _ id 149 #[] (λg=>#[.pointer (some ⟨g,0,none⟩)]) A l.length c l {typ:=1,stream:=id,endd:=fin,endHeads:=true,data:=l} h hr hw hc (by omega) (by decide) (by cases fin<;>decide) hid (by cases fin<;>rfl) (by cases fin<;>decide) hl (by decide) (.inl hg) (opn_heads id he fin true l) (λg=>rfl) enter_works1 (λe w' hq=>.inl hq.ret) ?_;intro W g sv dv hA ho hC hD hL hd;obtain⟨A6,c6,rfl,hf,_,hh⟩:=hd.form;refine(works1_any W ow b g {M with greeted:=true} S L {typ:=1,stream:=id,endd:=fin,endHeads:=true,data:=l} sv _ _ hA hC (h.new g hD) h2 h8 ?_).mono λe w' hp=>hp.trans ho;intro W2 ow2 L2 hF h5;have h6:Env W2 ow2:=(hE.fr ho).fr h5;obtain⟨e1,e2,e3,hG⟩:=h6.env;obtain⟨m,hm⟩:=hG.top;have h3:0<l.length->∀ad,A6=some ad->ow ad.block= .no:=λhK ad ha=>by
  refine h.new _ ?_;rcases hd.2 with⟨e,h0⟩|⟨g,cap,cur,e,hb,_⟩
  · have h0:l.length=0:=h0
    omega
  · injection e with e
    rw[ha]at e;injection e with e
    rw[e];exact hb
 have hi:Rd W2 W2.heap.size A6 l.length l:=(h5.rd hh (Nat.le_refl _) h3).more h5.size;refine piece_any W2 ow2 b {M with greeted:=true,list:=some (id,fin,[])} S L2 id fin [] l {typ:=1,stream:=id,endd:=fin,endHeads:=true,data:=l} sv A6 l.length c6 hs m hF hu rfl rfl hi hf (by simpa using h7) (by simpa using ht) h2 hk h9 hid hm (h6.no _ (by decide)) ?_;intro W3 ow3 L3 A3 c3 hH hI hJ hj h4;have hn:CN W3 ow3 b M L3:=by
  have h1:CN W3 ow3 b {M with greeted:=true,list:=none} L3:=hH;rw[hM]at h1;exact h1
 exact hop W3 ow3 b L3 A3 c3 (h6.fr hI) hn hJ hj h4
def refM (M:Cv) (id:Nat):Cv:={M with last:=id,out:=M.out++frameB 3 0 id (be 7 4)}
theorem takes_many (M:Cv) (id:Nat) (fin:Bool) (l:List UInt8) (hs:List HdrV) (hix:Ix l hs) (hlen:l.length<=100) (hg:M.greeted=true) (hdg:M.hp.dgone=false) (hl:M.list=none) (hside:M.side=2) (hodd:id % 2=1) (hk:knownB M id=false) (hnew:strAt M (id:Int)=none) (hid:id<=2147483647)
 (hm:M.cs<=(M.strs.length:Int)) (ho:M.out.length<=1000000000):TakesT M 1 ((if fin then 1 else 0)|||(if true then 4 else 0)) id l (λM'=>M'=refM M id):=
 takes_heads M _ id fin l hs hix hlen hg hdg hl hside hodd hk hnew hid λW ow b L A c _ hc _ _ _=>(opened_many W ow b M L id _ fin hc ⟨by omega,hid⟩ hm ho).mono λ_ _ hp=>⟨_,rfl,hp⟩
def opnM (M:Cv) (id:Nat) (fin:Bool) (hs:List HdrV) (A:Option Addr) (c:Nat):Cv:=
 {M with last:=id,strs:=M.strs++[endS {id:=id,other:=1,inw:=M.window,outw:=M.others} fin],evs:=M.evs++[{kind:=1,stream:=id,fin:=fin,la:=A,lc:=c,l:=hs}]}
theorem takes_open (M:Cv) (id:Nat) (fin:Bool) (l:List UInt8) (hs:List HdrV) (hix:Ix l hs) (hlen:l.length<=100) (hg:M.greeted=true) (hdg:M.hp.dgone=false) (hl:M.list=none) (hside:M.side=2) (hodd:id % 2=1) (hk:knownB M id=false) (hnew:strAt M (id:Int)=none) (hid:id<=2147483647)
 (hns:∀s∈M.strs,s.id≠id) (hm:(M.strs.length:Int)<M.cs) (hbye:M.bye=false) (h0:0<=M.window/\M.window<=2147483647) (h1:0<=M.others/\M.others<=2147483647) (hn:M.strs.length<=1000000) (hu:(M.strs.map (·.id)).Nodup) (hpos:0<hs.length) (hev:M.evs.length<=900000)
 (hz:H6.Szs hs) (ho:(openS rules4 hs req0).isSome=true):TakesT M 1 ((if fin then 1 else 0)|||(if true then 4 else 0)) id l (λM'=>∃A c,M'=opnM M id fin hs A c):=by
 refine takes_heads M _ id fin l hs hix hlen hg hdg hl hside hodd hk hnew hid λW ow b L A c hE hc h3 h4 h2=>?_;refine(opened_ok W ow b M L id A c hs fin hc hid hns hm hbye h0 h1 hn hu h3 h4 hpos (h2 hpos) hev λW' hf hr=>?_).mono λ_ _ hp=>⟨_,⟨A,c,rfl⟩,hp⟩;obtain⟨e1,e2,e3,h5⟩:=(hE.fr hf).env;exact headOk_of h5 (by rw[<-hix.len];exact hlen) h3 (hr.more hf.size) hz ho
theorem takes_idle (M:Cv) (id:Nat) (hg:M.greeted=true) (hl:M.list=none) (hk:knownB M id=false) (h0:id≠0) (hid:id<=2147483647):TakesP M 0 0 id [] (λM'=>M'=M) 1 0:=by
 intro w ow b L A c hE h hr h2 hc;have hM:({M with greeted:=true}:Cv)=M:=by
  cases M;simp only at hg;subst hg
  rfl
 refine takes_any w ow b M L _ 0 0 id 148 #[.pointer (some ⟨b,0,none⟩)] (λ_=>#[]) A 0 c [] {typ:=0,stream:=id} h hr h2 hc (by decide) (by decide) (by decide) hid rfl (by decide) hl (by decide) (.inl hg) (opn_data id h0 false []) (λg=>rfl) enter_cdata (λe w' hq=>.inr ⟨_,hq.ret⟩) ?_;intro W g sv dv h1 h3 h4 h5 hs hd;rw[hM]at h1;exact(data_idle W ow b M L {typ:=0,stream:=id} sv dv (.int .i64 (0:Nat)) h1 hk).mono λe w' hp=>⟨M,ow,L,rfl,hp.1,h1.below hp.2,h3.trans (Fr.below hp.2 ow)⟩
theorem fault_dead (M:Cv) (c:Nat) (hc:c<4294967296) (hl:M.last<=2147483647) (ho:M.out.length<=1000000000) (hn:M.evs.length<=900000):FaultT M c 0 (λM'=>M'=deadM M c):=
 λw ow b L h=>(faulty_dead w ow b M L c h hc hl ho hn).mono λ_ _ hp=>⟨_,rfl,hp⟩
end Go.Proofs.YtkpppjhbmnfmkaaGreatDoor
end

section
namespace Go.Proofs.YtkpppjhbmnfmkaaGreatDoor
open Go.RowKit Go.Own Go.Own.Im Go.Own.Cx Go.Own.Fr Go.Own.Hd
theorem StepT.mono {M:Cv} {m:Bool} {S S2:Cv->Prop} (h:StepT M m S) (hi:∀M',S M'->S2 M'):StepT M m S2:=λw ow b L hE hc=>(h w ow b L hE hc).mono λ_ _ ⟨M',hs,hp⟩=>⟨M',hi M' hs,hp⟩
theorem runs_pref {S:Cv->Prop} {n:Nat} (M:Cv) (r:List UInt8) (hd:M.dead=false) (h:Runs n {M with preface:=24,fed:=r} S):∀k,k<=24->Runs (n+k) {M with preface:=24-k,fed:=prefB.drop (24-k)++r} S
 |0,_=>by
  have e:prefB.drop 24=[]:=rfl;rw[Nat.sub_zero,e];exact h
 |k+1,hk=>by
  have ih:=runs_pref M r hd h k (by omega);have h0:24-(k+1)<prefB.length:=by show 24-(k+1)<24;omega
  have e1:24-(k+1)+1=24-k:=by omega
  have e2:prefB.drop (24-(k+1))=prefB[24-(k+1)]::prefB.drop (24-k):=by rw[List.drop_eq_getElem_cons h0,e1]
  rw[e2];refine .more hd (step_pref {M with preface:=24-(k+1),fed:=prefB[24-(k+1)]::(prefB.drop (24-k)++r)} _ _ (List.getElem?_eq_getElem h0) rfl) λM1 h1=>?_;rw[h1];have e3:({M with preface:=24-(k+1),fed:=prefB[24-(k+1)]::(prefB.drop (24-k)++r)}:Cv).preface+1=24-k:=e1;rw[e3];exact ih
def b3:List UInt8:=[131,134,132]
def hs3:List HdrV:=[⟨⟨#[58,109,101,116,104,111,100]⟩,⟨#[80,79,83,84]⟩,false⟩,⟨⟨#[58,115,99,104,101,109,101]⟩,⟨#[104,116,116,112]⟩,false⟩,⟨⟨#[58,112,97,116,104]⟩,⟨#[47]⟩,false⟩]
theorem ix3:Ix b3 hs3:=⟨⟨3,rfl,rfl⟩,⟨6,rfl,rfl⟩,⟨4,rfl,rfl⟩,trivial⟩
theorem opn3:(openS rules4 hs3 req0).isSome=true:=by kernel_rfl
theorem szs3:H6.Szs hs3:=by
 intro h hm;simp only[hs3,List.mem_cons,List.not_mem_nil,or_false]at hm;rcases hm with rfl|rfl|rfl<;>decide
theorem flag5:((if true then 1 else 0)|||(if true then 4 else 0):Nat)=5:=by decide
def s1:Cv:={newM 2 65535 1 with out:=[]}
def m5 (A:Option Addr) (c:Nat):Cv:=opnM (setM {s1 with preface:=24}) 1 true hs3 A c
def s2:Cv:={m5 none 0 with evs:=[]}
theorem runs1:Runs 26 {s1 with evs:=[],fed:=s1.fed++((prefB++frameB 4 0 0 [])++frameB 1 5 1 b3)} (λM'=>∃A c,M'=m5 A c):=by
 have h:=runs_pref (S:=λM'=>∃A c,M'=m5 A c) (n:=2) s1 (frameB 4 0 0 []++frameB 1 5 1 b3) rfl ?_ 24 (Nat.le_refl _)
 · have e:({s1 with evs:=[],fed:=s1.fed++((prefB++frameB 4 0 0 [])++frameB 1 5 1 b3)}:Cv)={s1 with preface:=24-24,fed:=prefB.drop (24-24)++(frameB 4 0 0 []++frameB 1 5 1 b3)}:=by
    have e1:s1.fed++((prefB++frameB 4 0 0 [])++frameB 1 5 1 b3)=prefB.drop (24-24)++(frameB 4 0 0 []++frameB 1 5 1 b3):=by
     show[]++_=_;rw[List.nil_append,List.append_assoc]
     rfl
    rw[e1]
    rfl
   rw[e];exact h
 · refine .more rfl (step_takes _ _ 4 0 0 [] (frameB 1 5 1 b3) rfl rfl (by decide) (by decide) (by decide) (by decide) (takes_set _ rfl (by decide) (by decide))) λM1 h1=>?_
   subst h1;refine .more rfl (step_takes _ _ 1 5 1 b3 [] rfl (by show frameB 1 5 1 b3=_;rw[List.append_nil]) (by decide) (by decide) (by decide) (by decide) (flag5▸takes_open _ 1 true b3 hs3 ix3 (by decide) rfl rfl rfl rfl rfl rfl rfl (by decide) (λs hs=>by cases hs) (by decide) rfl ⟨by decide,by decide⟩ ⟨by decide,by decide⟩ (by decide) (by show([]:List Nat).Nodup;exact List.nodup_nil) (by decide) (by decide) szs3 opn3)) λM2 h2=>?_;obtain⟨A,c,rfl⟩:=h2;exact .stop rfl ((step_few _ rfl (by show([]:List UInt8).length<9;decide)).mono λM' h'=>⟨A,c,h'⟩)
end Go.Proofs.YtkpppjhbmnfmkaaGreatDoor
end

section
namespace Go.Proofs.YtkpppjhbmnfmkaaGreatDoor
open Go.RowKit Go.Own Go.Own.Im Go.Own.Cx Go.Own.Fr
end Go.Proofs.YtkpppjhbmnfmkaaGreatDoor
end
