/-
  
  
  
  
  
  
  
  
  
  
  
  
  
  
  
  
-/
import Derived.Test.YtkpppjhbmnfmkaaGreatDoorJar
import Derived.Test.YtkpppjhbmnfmkaaGreatDoorG2
import Derived.Test.YtkpppjhbmnfmkaaGreatDoorJao
import Derived.Test.YtkpppjhbmnfmkaaGreatDoorF7
import Derived.Test.YtkpppjhbmnfmkaaGreatDoorJaq
import Derived.Test.YtkpppjhbmnfmkaaGreatDoorJam
import Derived.Test.YtkpppjhbmnfmkaaGreatDoorJab
import Derived.Test.YtkpppjhbmnfmkaaGreatDoorJaf
import Derived.LaidEql
import Derived.BigQuiet
import Derived.Test.YtkpppjhbmnfmkaaGreatDoorJaa
import Derived.Deep.Fields
import Derived.ChangeSame
import Derived.ProofKit
import Derived.OpenShut
import Derived.Lib.SmallJoins
import Derived.Lib.LaidTab
import Derived.Test.YtkpppjhbmnfmkaaGreatDoorJan
import Derived.Test.YtkpppjhbmnfmkaaGreatDoorJal
import Derived.Test.YtkpppjhbmnfmkaaGreatDoorIt
import Derived.Deep.RegionLaw
import Derived.Test.YtkpppjhbmnfmkaaGreatDoorD1
import Derived.Test.YtkpppjhbmnfmkaaGreatDoorJai
import Derived.Test.YtkpppjhbmnfmkaaGreatDoorJae
set_option linter.unusedSimpArgs false
set_option linter.unusedVariables false
section
namespace Go.Proofs.YtkpppjhbmnfmkaaGreatDoor
open Go.RowKit Go.Own Go.Own.Im Go.Own.Cx Go.Own.Fr Go.Own.Hd
theorem enter_settings:Enters Tryz.prog 155:=enters_of Tryz.func155 (by kernel_rfl) rfl
theorem enter_works1:Enters Tryz.prog 149:=enters_of Tryz.func149 (by kernel_rfl) rfl
theorem enter_cdata:Enters Tryz.prog 148:=enters_of Tryz.func148 (by kernel_rfl) rfl
def setM (M:Cv):Cv:={M with greeted:=true,out:=M.out++frameB 4 1 0 [],evs:=M.evs++[{kind:=7}]}
theorem takes_set (M:Cv) (hl:M.list=none) (ho:M.out.length<=1000000000) (hn:M.evs.length<=900000):TakesT M 4 0 0 [] (λM'=>M'=setM M):=by
 intro w ow b L A c hE h hr h0 hc;have h1:opn 4 0 0 []= .ok {typ:=4}:=opn_set [] (by simp);refine takes_any w ow b M L _ 4 0 0 155 #[.pointer (some ⟨b,0,none⟩)] (λ_=>#[]) A 0 c [] {typ:=4} h hr h0 hc (by decide) (by decide) (by decide) (by decide) rfl (by decide) hl (by decide) (.inr ⟨rfl,by decide⟩) h1 (λg=>rfl) enter_settings (λe w' hq=>.inl hq.ret) ?_;intro W g sv dv h2 h3 h4 hg hs hd;obtain⟨A5,c5,rfl,_⟩:=hs.form;exact(settings_none W ow b {M with greeted:=true} L {typ:=4} A5 c5 dv (.int .i64 (0:Nat)) h2 rfl ho hn).mono λe w' hp=>⟨_,rfl,hp.trans h3⟩
theorem takes_heads (M:Cv) (S:Cv->Prop) (id:Nat) (fin:Bool) (l:List UInt8) (hs:List HdrV) (ht:Ix l hs) (h7:l.length<=100) (hg:M.greeted=true) (hu:M.hp.dgone=false) (hl:M.list=none) (h2:M.side=2) (h8:id % 2=1) (hk:knownB M id=false) (h9:strAt M (id:Int)=none) (hid:id<=2147483647)
 (hop:∀W ow b L A c,Env W ow->CN W ow b M L->hs.length<=c->Cm.RS hdrC 3 W W.heap.size A hs.length hs->(0<hs.length->∀ad,A=some ad->ow ad.block= .evd)->Calls Tryz.prog 196 #[.pointer (some ⟨b,0,none⟩),.int .i64 (id:Nat),.slice A hs.length c,.bool fin] W (CPostS W ow b S (.tuple #[]))):
 TakesT M 1 ((if fin then 1 else 0)|||(if true then 4 else 0)) id l S:=by
 intro w ow b L A c hE h hr hw hc;have he:id≠0:=by omega
 have hM:({M with greeted:=true,list:=none}:Cv)=M:=by
  cases M;simp only at hg hl;subst hg hl
  rfl
 refine takes_any w ow b M L _ 1 _ id 149 #[] (λg=>#[.pointer (some ⟨g,0,none⟩)]) A l.length c l {typ:=1,stream:=id,endd:=fin,endHeads:=true,data:=l} h hr hw hc (by omega) (by decide) (by cases fin<;>decide) hid (by cases fin<;>rfl) (by cases fin<;>decide) hl (by decide) (.inl hg) (opn_heads id he fin true l) (λg=>rfl) enter_works1 (λe w' hq=>.inl hq.ret) ?_;intro W g sv dv hA ho hC hD hL hd;obtain⟨A6,c6,rfl,hf,_,hh⟩:=hd.form;refine(works1_any W ow b g {M with greeted:=true} S L {typ:=1,stream:=id,endd:=fin,endHeads:=true,data:=l} sv _ _ hA hC (h.new g hD) h2 h8 ?_).mono λe w' hp=>hp.trans ho;intro W2 ow2 L2 hF h5;have h6:Env W2 ow2:=(hE.fr ho).fr h5;obtain⟨e1,e2,e3,hG⟩:=h6.env;obtain⟨m,hm⟩:=hG.top;have h3:0<l.length->∀ad,A6=some ad->ow ad.block= .no:=λhK ad ha=>by
  refine h.new _ ?_;rcases hd.2 with⟨e,h0⟩|⟨g,cap,cur,e,hb,_⟩
  · have h0:l.length=0:=h0
    omega
  · injection e with e
    rw[ha]at e;injection e with e
    rw[e];exact hb
 have hi:Rd W2 W2.heap.size A6 l.length l:=(h5.rd hh (Nat.le_refl _) h3).more h5.size;refine piece_any W2 ow2 b {M with greeted:=true,list:=some (id,fin,[])} S L2 id fin [] l {typ:=1,stream:=id,endd:=fin,endHeads:=true,data:=l} sv A6 l.length c6 hs m hF hu rfl rfl hi hf (by simpa using h7) (by simpa using ht) h2 hk h9 hid hm (h6.no _ (by decide)) ?_;intro W3 ow3 L3 A3 c3 hH hI hJ hj h4;have hn:CN W3 ow3 b M L3:=by
  have h1:CN W3 ow3 b {M with greeted:=true,list:=none} L3:=hH;rw[hM]at h1;exact h1
 exact hop W3 ow3 b L3 A3 c3 (h6.fr hI) hn hJ hj h4
def refM (M:Cv) (id:Nat):Cv:={M with last:=id,out:=M.out++frameB 3 0 id (be 7 4)}
theorem takes_many (M:Cv) (id:Nat) (fin:Bool) (l:List UInt8) (hs:List HdrV) (hix:Ix l hs) (hlen:l.length<=100) (hg:M.greeted=true) (hdg:M.hp.dgone=false) (hl:M.list=none) (hside:M.side=2) (hodd:id % 2=1) (hk:knownB M id=false) (hnew:strAt M (id:Int)=none) (hid:id<=2147483647)
 (hm:M.cs<=(M.strs.length:Int)) (ho:M.out.length<=1000000000):TakesT M 1 ((if fin then 1 else 0)|||(if true then 4 else 0)) id l (λM'=>M'=refM M id):=
 takes_heads M _ id fin l hs hix hlen hg hdg hl hside hodd hk hnew hid λW ow b L A c _ hc _ _ _=>(opened_many W ow b M L id _ fin hc ⟨by omega,hid⟩ hm ho).mono λ_ _ hp=>⟨_,rfl,hp⟩
def opnM (M:Cv) (id:Nat) (fin:Bool) (hs:List HdrV) (A:Option Addr) (c:Nat):Cv:=
 {M with last:=id,strs:=M.strs++[endS {id:=id,other:=1,inw:=M.window,outw:=M.others} fin],evs:=M.evs++[{kind:=1,stream:=id,fin:=fin,la:=A,lc:=c,l:=hs}]}
theorem takes_open (M:Cv) (id:Nat) (fin:Bool) (l:List UInt8) (hs:List HdrV) (hix:Ix l hs) (hlen:l.length<=100) (hg:M.greeted=true) (hdg:M.hp.dgone=false) (hl:M.list=none) (hside:M.side=2) (hodd:id % 2=1) (hk:knownB M id=false) (hnew:strAt M (id:Int)=none) (hid:id<=2147483647)
 (hns:∀s∈M.strs,s.id≠id) (hm:(M.strs.length:Int)<M.cs) (hbye:M.bye=false) (h0:0<=M.window/\M.window<=2147483647) (h1:0<=M.others/\M.others<=2147483647) (hn:M.strs.length<=1000000) (hu:(M.strs.map (·.id)).Nodup) (hpos:0<hs.length) (hev:M.evs.length<=900000)
 (hz:H6.Szs hs) (ho:(openS rules4 hs req0).isSome=true):TakesT M 1 ((if fin then 1 else 0)|||(if true then 4 else 0)) id l (λM'=>∃A c,M'=opnM M id fin hs A c):=by
 refine takes_heads M _ id fin l hs hix hlen hg hdg hl hside hodd hk hnew hid λW ow b L A c hE hc h3 h4 h2=>?_;refine(opened_ok W ow b M L id A c hs fin hc hid hns hm hbye h0 h1 hn hu h3 h4 hpos (h2 hpos) hev λW' hf hr=>?_).mono λ_ _ hp=>⟨_,⟨A,c,rfl⟩,hp⟩;obtain⟨e1,e2,e3,h5⟩:=(hE.fr hf).env;exact headOk_of h5 (by rw[<-hix.len];exact hlen) h3 (hr.more hf.size) hz ho
theorem takes_idle (M:Cv) (id:Nat) (hg:M.greeted=true) (hl:M.list=none) (hk:knownB M id=false) (h0:id≠0) (hid:id<=2147483647):TakesP M 0 0 id [] (λM'=>M'=M) 1 0:=by
 intro w ow b L A c hE h hr h2 hc;have hM:({M with greeted:=true}:Cv)=M:=by
  cases M;simp only at hg;subst hg
  rfl
 refine takes_any w ow b M L _ 0 0 id 148 #[.pointer (some ⟨b,0,none⟩)] (λ_=>#[]) A 0 c [] {typ:=0,stream:=id} h hr h2 hc (by decide) (by decide) (by decide) hid rfl (by decide) hl (by decide) (.inl hg) (opn_data id h0 false []) (λg=>rfl) enter_cdata (λe w' hq=>.inr ⟨_,hq.ret⟩) ?_;intro W g sv dv h1 h3 h4 h5 hs hd;rw[hM]at h1;exact(data_idle W ow b M L {typ:=0,stream:=id} sv dv (.int .i64 (0:Nat)) h1 hk).mono λe w' hp=>⟨M,ow,L,rfl,hp.1,h1.below hp.2,h3.trans (Fr.below hp.2 ow)⟩
theorem fault_dead (M:Cv) (c:Nat) (hc:c<4294967296) (hl:M.last<=2147483647) (ho:M.out.length<=1000000000) (hn:M.evs.length<=900000):FaultT M c 0 (λM'=>M'=deadM M c):=
 λw ow b L h=>(faulty_dead w ow b M L c h hc hl ho hn).mono λ_ _ hp=>⟨_,rfl,hp⟩
end Go.Proofs.YtkpppjhbmnfmkaaGreatDoor
end

section
namespace Go.Proofs.YtkpppjhbmnfmkaaGreatDoor
open Go.RowKit Go.Own Go.Own.Im Go.Own.Cx Go.Own.Fr Go.Own.Hd
theorem StepT.mono {M:Cv} {m:Bool} {S S2:Cv->Prop} (h:StepT M m S) (hi:∀M',S M'->S2 M'):StepT M m S2:=λw ow b L hE hc=>(h w ow b L hE hc).mono λ_ _ ⟨M',hs,hp⟩=>⟨M',hi M' hs,hp⟩
theorem runs_pref {S:Cv->Prop} {n:Nat} (M:Cv) (r:List UInt8) (hd:M.dead=false) (h:Runs n {M with preface:=24,fed:=r} S):∀k,k<=24->Runs (n+k) {M with preface:=24-k,fed:=prefB.drop (24-k)++r} S
 |0,_=>by
  have e:prefB.drop 24=[]:=rfl;rw[Nat.sub_zero,e];exact h
 |k+1,hk=>by
  have ih:=runs_pref M r hd h k (by omega);have h0:24-(k+1)<prefB.length:=by show 24-(k+1)<24;omega
  have e1:24-(k+1)+1=24-k:=by omega
  have e2:prefB.drop (24-(k+1))=prefB[24-(k+1)]::prefB.drop (24-k):=by rw[List.drop_eq_getElem_cons h0,e1]
  rw[e2];refine .more hd (step_pref {M with preface:=24-(k+1),fed:=prefB[24-(k+1)]::(prefB.drop (24-k)++r)} _ _ (List.getElem?_eq_getElem h0) rfl) λM1 h1=>?_;rw[h1];have e3:({M with preface:=24-(k+1),fed:=prefB[24-(k+1)]::(prefB.drop (24-k)++r)}:Cv).preface+1=24-k:=e1;rw[e3];exact ih
def b3:List UInt8:=[131,134,132]
def hs3:List HdrV:=[⟨⟨#[58,109,101,116,104,111,100]⟩,⟨#[80,79,83,84]⟩,false⟩,⟨⟨#[58,115,99,104,101,109,101]⟩,⟨#[104,116,116,112]⟩,false⟩,⟨⟨#[58,112,97,116,104]⟩,⟨#[47]⟩,false⟩]
theorem ix3:Ix b3 hs3:=⟨⟨3,rfl,rfl⟩,⟨6,rfl,rfl⟩,⟨4,rfl,rfl⟩,trivial⟩
theorem opn3:(openS rules4 hs3 req0).isSome=true:=by kernel_rfl
theorem szs3:H6.Szs hs3:=by
 intro h hm;simp only[hs3,List.mem_cons,List.not_mem_nil,or_false]at hm;rcases hm with rfl|rfl|rfl<;>decide
theorem flag5:((if true then 1 else 0)|||(if true then 4 else 0):Nat)=5:=by decide
def s1:Cv:={newM 2 65535 1 with out:=[]}
def m5 (A:Option Addr) (c:Nat):Cv:=opnM (setM {s1 with preface:=24}) 1 true hs3 A c
def s2:Cv:={m5 none 0 with evs:=[]}
theorem runs1:Runs 26 {s1 with evs:=[],fed:=s1.fed++((prefB++frameB 4 0 0 [])++frameB 1 5 1 b3)} (λM'=>∃A c,M'=m5 A c):=by
 have h:=runs_pref (S:=λM'=>∃A c,M'=m5 A c) (n:=2) s1 (frameB 4 0 0 []++frameB 1 5 1 b3) rfl ?_ 24 (Nat.le_refl _)
 · have e:({s1 with evs:=[],fed:=s1.fed++((prefB++frameB 4 0 0 [])++frameB 1 5 1 b3)}:Cv)={s1 with preface:=24-24,fed:=prefB.drop (24-24)++(frameB 4 0 0 []++frameB 1 5 1 b3)}:=by
    have e1:s1.fed++((prefB++frameB 4 0 0 [])++frameB 1 5 1 b3)=prefB.drop (24-24)++(frameB 4 0 0 []++frameB 1 5 1 b3):=by
     show[]++_=_;rw[List.nil_append,List.append_assoc]
     rfl
    rw[e1]
    rfl
   rw[e];exact h
 · refine .more rfl (step_takes _ _ 4 0 0 [] (frameB 1 5 1 b3) rfl rfl (by decide) (by decide) (by decide) (by decide) (takes_set _ rfl (by decide) (by decide))) λM1 h1=>?_
   subst h1;refine .more rfl (step_takes _ _ 1 5 1 b3 [] rfl (by show frameB 1 5 1 b3=_;rw[List.append_nil]) (by decide) (by decide) (by decide) (by decide) (flag5▸takes_open _ 1 true b3 hs3 ix3 (by decide) rfl rfl rfl rfl rfl rfl rfl (by decide) (λs hs=>by cases hs) (by decide) rfl ⟨by decide,by decide⟩ ⟨by decide,by decide⟩ (by decide) (by show([]:List Nat).Nodup;exact List.nodup_nil) (by decide) (by decide) szs3 opn3)) λM2 h2=>?_;obtain⟨A,c,rfl⟩:=h2;exact .stop rfl ((step_few _ rfl (by show([]:List UInt8).length<9;decide)).mono λM' h'=>⟨A,c,h'⟩)
end Go.Proofs.YtkpppjhbmnfmkaaGreatDoor
end

section
namespace Go.Proofs.YtkpppjhbmnfmkaaGreatDoor
open Go.RowKit Go.Own Go.Own.Im Go.Own.Cx Go.Own.Fr Go.Own.Hd
def s3:Cv:={s2 with out:=[]}
def s4:Cv:=refM s3 3
theorem runs2:Runs 1 {s3 with evs:=[],fed:=s3.fed++frameB 1 5 3 b3} (λM'=>M'=s4):=by
 refine .more rfl (step_takes _ _ 1 5 3 b3 [] rfl (by show frameB 1 5 3 b3=_;rw[List.append_nil]) (by decide) (by decide) (by decide) (by decide) (flag5▸takes_many s3 3 true b3 hs3 ix3 (by decide) rfl rfl rfl rfl rfl rfl rfl (by decide) (by decide) (by decide))) λM1 h1=>?_;subst h1;exact .stop rfl ((step_few _ rfl (by show([]:List UInt8).length<9;decide)).mono λM' h'=>h')
def s5:Cv:={s4 with out:=[]}
def s6:Cv:=deadM s5 1
theorem runs3:Runs 1 {s5 with evs:=[],fed:=s5.fed++frameB 0 0 9 []} (λM'=>M'=s6):=by
 refine .more rfl (step_panics _ (λM'=>M'=s5) (λM'=>M'=s6) 0 0 9 1 0 [] [] rfl (by show frameB 0 0 9 []=_;rw[List.append_nil]) (by decide) (by decide) (by decide) (by decide) (takes_idle s5 9 rfl rfl (by decide) (by decide) (by decide)) (λM1 h1=>?_)) λM1 h1=>?_
 · subst h1
   exact fault_dead s5 1 (by decide) (by decide) (by decide) (by decide)
 · subst h1
   exact .dead rfl rfl
structure EnvW (w:World):Prop where
 room:20<=w.heap.size
 env:∃e1 e2 e3,H6.EnvH w e1 e2 e3
 ends:∃a c,a≠c/\w.cell? ⟨10,0,none⟩=some (.iface 327 (.pointer (some a)))/\w.cell? ⟨5,0,none⟩=some (.iface 327 (.pointer (some c)))/\
  (∃cs t,w.heap[a.block]?=some (.cells cs t (0,0)))/\∃cs t,w.heap[c.block]?=some (.cells cs t (0,0))
 hp:HpE w
theorem EnvW.below {w w':World} (h:EnvW w) (hb:Below w.heap.size w w'):EnvW w':=by
 have hk:∀i,i<20->w'.heap[i]?=w.heap[i]?:=λi hi=>hb.block i (by have:=h.room;omega);obtain⟨e1,e2,e3,he⟩:=h.env;obtain⟨a,c,hne,h1,h2,⟨ca,ta,ha⟩,cc,tc,hc⟩:=h.ends;exact⟨Nat.le_trans h.room hb.size,⟨e1,e2,e3,he.kept hk (Nat.le_trans h.room hb.size)⟩,⟨a,c,hne,(World.cell?_of_block (a:=⟨10,0,none⟩) (hk _ (by decide))).trans h1,(World.cell?_of_block (a:=⟨5,0,none⟩) (hk _ (by decide))).trans h2,
  ⟨ca,ta,(hb.block _ (Array.getElem?_eq_some_iff.1 ha).1).trans ha⟩,cc,tc,(hb.block _ (Array.getElem?_eq_some_iff.1 hc).1).trans hc⟩,h.hp.keep hb.size hk⟩
theorem EnvW.of {w w':World} {ow:Nat->Tg} (h:EnvW w) (hb:Below w.heap.size w w') (ho:∀g,g<w.heap.size->ow g= .no):Env w' ow:=by
 have hk:∀i,i<20->w'.heap[i]?=w.heap[i]?:=λi hi=>hb.block i (by have:=h.room;omega);have hz:=Nat.le_trans h.room hb.size;have h0:∀g,g<20->ow g= .no:=λg hg=>ho g (by have:=h.room;omega);obtain⟨e1,e2,e3,he⟩:=h.env;obtain⟨a,c,hne,h1,h2,⟨ca,ta,ha⟩,cc,tc,hc⟩:=h.ends;have h3:=(Array.getElem?_eq_some_iff.1 ha).1;have h4:=(Array.getElem?_eq_some_iff.1 hc).1;exact⟨hz,h0,⟨e1,e2,e3,he.kept hk hz⟩,⟨a,c,hz,h0,hne,(World.cell?_of_block (a:=⟨10,0,none⟩) (hk _ (by decide))).trans h1,(World.cell?_of_block (a:=⟨5,0,none⟩) (hk _ (by decide))).trans h2,
  ⟨ca,ta,(hb.block _ h3).trans ha⟩,⟨cc,tc,(hb.block _ h4).trans hc⟩,ho _ h3,ho _ h4⟩,h.hp.keep hb.size hk⟩
theorem _root_.Go.Own.Cx.Fr.toBelow {w w1 w':World} {ow ow':Nat->Tg} (hb:Below w.heap.size w w1) (ho:∀g,g<w.heap.size->ow g= .no) (h:Fr w1 ow w' ow'):Below w.heap.size w w':=
 ⟨h.os.trans hb.os,h.tape.trans hb.tape,h.output.trans hb.output,Nat.le_trans hb.size h.size,λg hg=>(h.keep g (Nat.lt_of_lt_of_le hg hb.size) (ho g hg)).trans (hb.block g hg)⟩
theorem _root_.Go.Own.Oz.tagged {w w':World} {A:Option Addr} {n c:Nat} {l:List UInt8} {ow:Nat->Tg} (h:Oz w' (λg=>w.heap.size<=g) (.slice A n c) l) (hn:∀g,w.heap.size<=g->ow g= .no):0<n->∀ad,A=some ad->ow ad.block= .no:=λhp ad ha=>by
 obtain⟨A',c',e,h1,_,h3⟩:=h;injection e with e1 e2 e3
 obtain⟨g,off,e4,ho,_⟩:=h3 (by omega);rw[<-e1,ha]at e4;injection e4 with e4
 rw[e4];exact hn g ho
theorem _root_.Go.Own.Ow.tagged {w':World} {B:Nat} {e:TypeId} {A:Option Addr} {n c:Nat} {l:List UInt8} {ow:Nat->Tg} (h:Ow w' B e (.slice A n c) n l) (hn:∀g,B<=g->ow g= .no):0<n->∀ad,A=some ad->ow ad.block= .no:=λhp ad ha=>by
 rcases h.2 with⟨e,h0⟩|⟨g,cap,cur,e,hb,_⟩
 · omega
 · injection e with e
   rw[ha]at e;injection e with e
   rw[e];exact hn _ hb
end Go.Proofs.YtkpppjhbmnfmkaaGreatDoor
end

section
set_option maxHeartbeats 16000000
set_option maxRecDepth 100000
namespace Go.Proofs.YtkpppjhbmnfmkaaGreatDoor
open Lib (hid)
open Go.RowKit Go.Own Go.Own.Im Go.Own.Cx Go.Own.Fr Go.Own.Hd
theorem ev_at {w:World} {B n j:Nat} {ad:Addr} {l:List EvV} {x:EvV} (h:Cm.RS evC 7 w B (some ad) n l) (hx:l[j]?=some x):
 w.cell? (ad.add (j*7))=some (.int .i64 (x.kind:Nat))/\w.cell? ⟨(ad.add (j*7)).block,(ad.add (j*7)).off+1,none⟩=some (.int .i64 (x.stream:Nat))/\w.cell? ⟨(ad.add (j*7)).block,(ad.add (j*7)).off+4,none⟩=some (.bool x.fin):=by
 have hj:j<n:=by rw[<-h.1];exact(List.getElem?_eq_some_iff.1 hx).1
 obtain⟨ad',x',e,h1,h0,hr⟩:=h.at2 hj;injection e with e
 subst e;rw[hx]at h1;injection h1 with h1
 subst h1;exact⟨h0,hr 1 (.int .i64 (x.stream:Nat)) (by decide) rfl,hr 4 (.bool x.fin) (by decide) rfl⟩
theorem rd_b3 (w:World):Rd (w.alloc (.cells #[.int .u8 131,.int .u8 134,.int .u8 132] 5)) (w.alloc (.cells #[.int .u8 131,.int .u8 134,.int .u8 132] 5)).heap.size (some ⟨w.heap.size,0,none⟩) 3 b3:=
 (show Ow (w.alloc (.cells #[.int .u8 131,.int .u8 134,.int .u8 132] 5)) w.heap.size 5 (.slice (some ⟨w.heap.size,0,none⟩) 3 3) 3 b3 from Ow.lit w 5 b3 (by decide)).rd
theorem first_any (w:World) (hW:EnvW w):Calls Tryz.prog 8 #[] w λe w'=>e= .returned (.bool true)/\Below w.heap.size w w':=by
 have HE:=hid hW;have HN:=hid (new2_any w 65535 1 (by decide) (by decide));clear hW;go_enter Tryz.func8,Tryz.ntmps8;go_wp2_with fail;refine HN.out.mono ?_;rintro e w1 ⟨b,ow1,L1,rfl,Hp,Hq,Hs⟩;have H2:=hid Hq;have gc:=hid Hp;have H3:=hid Hs;clear Hp Hq Hs HN;go_wp2_with fail;refine(output_still w1 ow1 b _ L1 gc.out List.Pairwise.nil (by decide) (λs hs=>by cases hs) (.inr λs hs=>by cases hs)).mono ?_;rintro e w2 ⟨A2,c2,ow2,L2,rfl,Hi,Ht,gd,Hu,Hv⟩;have Hx:=hid Ht;have Hy:=hid (show CN w2 ow2 b s1 L2 from Hu);have HB:=hid Hv;clear Hi Ht gd Hu Hv;go_wp2_with fail;refine(begins2_any w2 65535 1 (by decide) (by decide)).mono ?_;rintro e w3 ⟨A3,n3,c3,rfl,HC,H4⟩;have hj:=hid (Hx.out.below H4);have HD:=hid HC;have H9:=hid (Hy.out.below H4);have HF:=hid (HB.out.trans (Fr.below H4 ow2));clear HC H4 Hy HB Hx;go_wp2_with fail;refine(sameBytes_any A2 A3 _ n3 c2 c3 _ _ w3 _ _ hj.out HD.out).mono ?_;rintro e w4 ⟨rfl,hw⟩;subst w4;rw[show decide ((newM 2 65535 1).out=(newM 2 65535 1).out)=true from decide_eq_true rfl];clear hj HD;go_wp2_with fail;refine(hello2_any w3).mono ?_;rintro e w4 ⟨A4,c4,rfl,HG,HH⟩;have HI:=hid HG;have Ha:=hid HH;clear HG HH;have HO:=hid (rd_b3 w4);have Hb:=hid ((Below.refl w4.heap.size w4).alloc (Nat.le_refl _) (.cells #[.int .u8 131,.int .u8 134,.int .u8 132] 5));go_wp2_with fail;generalize w4.alloc (.cells #[.int .u8 131,.int .u8 134,.int .u8 132] 5)=W4 at*
 refine(lawFrame_any (some ⟨w4.heap.size,0,none⟩) 3 3 1 5 1 W4.heap.size b3 W4 HO.out (Nat.le_refl _) (by decide) (by decide) (by decide) (by decide)).mono ?_;rintro e w5 ⟨A5,c5,rfl,HQ,HR⟩;have h3:=hid (Hb.out.trans (HR.mono Hb.out.size));have HS:=hid (HI.out.keep (λg hg _=>h3.out.block g hg) h3.out.size);have HT:=hid HQ.rd;have H5:=hid (Ha.out.trans (h3.out.mono Ha.out.size));have hk:(prefB++frameB 4 0 0 []).length+(9+3)<=140737488355328:=by decide
 clear HQ HR;go_wp2_with (first
  |(refine wpList_app_z byteP _ rfl (.tmp 29) (.tmp 31) rfl (λg=>w3.heap.size<=g) (.slice A4 33 c4) (prefB++frameB 4 0 0 []) rfl HS.out w5.heap.size A5 (9+3) c5 (frameB 1 5 1 b3) rfl HT.out hk ?_
    intro A6 c6 w6 row6 HU HV HW;have Hc:=hid (HU.owned (own':=λg=>w3.heap.size<=g) (λg _ h=>by rcases h with h|⟨_,h⟩;exact h;rw[h];exact H5.out.size));have He:=hid (H5.out.grown HV H5.out.size (λg e=>(HW g e).1));clear HU HV HW)
  |fail)
 have HX:=hid (H9.out.below He.out);have Hg:=hid (HF.out.trans (Fr.below He.out ow2));have HY:=hid ((HE.out.of H2.out H3.out).fr Hg.out);refine(feed_any w6 ow2 b s1 L2 _ 26 A6 _ c6 _ HY.out HX.out Hc.out.rd (Hc.out.tagged H9.out.new) rfl hk runs1).mono ?_;rintro e w7 ⟨M7,A7,c7,ow7,L7,⟨A,c,rfl⟩,rfl,Hj,HZ,g0,h2,_,_⟩;rw[show(m5 A c).evs.length=2 from rfl]at h2 Hj ⊢;have g1:=hid (show CN w7 ow7 b s2 L7 from HZ);have g2:=hid (Hg.out.trans g0);obtain⟨ad,_,rfl,_⟩:=h2.at2 (j:=0) (by decide);have k00:w7.cell? ad=some (.int .i64 7):=(ev_at h2 (j:=0) (x:={kind:=7}) rfl).1;have k1:=ev_at h2 (j:=1) (x:={kind:=1,stream:=1,fin:=true,la:=A,lc:=c,l:=hs3}) rfl;have k10:w7.cell? ⟨ad.block,ad.off+7,none⟩=some (.int .i64 1):=k1.1;have k11:w7.cell? ⟨ad.block,ad.off+7+1,none⟩=some (.int .i64 1):=k1.2.1;have k11':w7.cell? ⟨ad.block,ad.off+8,none⟩=some (.int .i64 1):=k1.2.1;have k14:w7.cell? ⟨ad.block,ad.off+7+4,none⟩=some (.bool true):=k1.2.2;have k14':w7.cell? ⟨ad.block,ad.off+11,none⟩=some (.bool true):=k1.2.2;clear k1;clear HZ g0 h2 HX Hg HY Hc He HS HT H5 h3 Hb HO HI Ha H9 HF;have hl:(s2.strs.map (·.id)).Pairwise (·<·):=by decide
 have hm:∀s∈s2.strs,s.id<=2147483647:=by decide
 have hn:∀s∈s2.strs,Still s:=by
  intro s hs;have:s=endS {id:=1,other:=1,inw:=65535,outw:=65535} true:=by
   have h1:s∈[endS {id:=1,other:=1,inw:=65535,outw:=65535} true]:=hs
   simpa using h1
  rw[this];exact⟨rfl,by decide⟩
 go_wp2_with fail;clear k00 k10 k11 k11' k14 k14';refine(output_still w7 ow7 b _ L7 g1.out hl (by decide) hm (.inr hn)).mono ?_;rintro e w8 ⟨A8,c8,ow8,L8,rfl,Hl,g3,ge,g4,g5⟩;have g6:=hid (show Rd w8 w8.heap.size A8 9 (frameB 4 1 0 [])from g3);have g7:=hid (show CN w8 ow8 b s3 L8 from g4);have g8:=hid (g2.out.trans g5);clear Hl g3 ge g4 g5 g2 g1;go_wp2_with fail;refine(lawAck_any w8).mono ?_;rintro e w9 ⟨A9,c9,rfl,g9,H7⟩;have ho:=hid (g6.out.below H7);have ga:=hid g9.rd;have Hh:=hid (g7.out.below H7);have gb:=hid (g8.out.trans (Fr.below H7 ow8));clear g9 H7 g8 g7 g6;go_wp2_with fail;refine(sameBytes_any A8 A9 9 9 c8 c9 _ _ w9 _ _ ho.out ga.out).mono ?_;rintro e w10 ⟨rfl,hw⟩;subst w10;rw[show decide (frameB 4 1 0 []=frameB 4 1 0 [])=true from decide_eq_true rfl];clear ho ga;have HR10:=hid (rd_b3 w9);have H8:=hid ((Below.refl w9.heap.size w9).alloc (Nat.le_refl _) (.cells #[.int .u8 131,.int .u8 134,.int .u8 132] 5));go_wp2_with fail;generalize w9.alloc (.cells #[.int .u8 131,.int .u8 134,.int .u8 132] 5)=W9 at*
 refine(lawFrame_any (some ⟨w9.heap.size,0,none⟩) 3 3 1 5 3 W9.heap.size b3 W9 HR10.out (Nat.le_refl _) (by decide) (by decide) (by decide) (by decide)).mono ?_;rintro e w11 ⟨A11,c11,rfl,hq,ht⟩;have h7:=hid (H8.out.trans (ht.mono H8.out.size));have h8:=hid (hq.base H8.out.size);have hu:=hid (Hh.out.below h7.out);have h9:=hid (gb.out.trans (Fr.below h7.out ow8));have hA:=hid ((HE.out.of H2.out H3.out).fr h9.out);clear hq ht;go_wp2_with fail;refine(feed_any w11 ow8 b s3 L8 _ 1 A11 _ c11 _ hA.out hu.out h8.out.rd (h8.out.tagged Hh.out.new) rfl (by show 0+(9+3)<=_;decide) runs2).mono ?_;rintro e w12 ⟨M12,A12,c12,ow12,L12,rfl,rfl,hZ,hC,hD,_,_,_⟩;rw[show s4.evs.length=0 from rfl];have hE:=hid (show CN w12 ow12 b s4 L12 from hC);have hF:=hid (h9.out.trans hD);clear hZ hC hD hu h9 hA h8 h7 H8 HR10 Hh gb;go_wp2_with fail;refine(output_still w12 ow12 b _ L12 hE.out hl (by decide) hm (.inr hn)).mono ?_;rintro e w13 ⟨A13,c13,ow13,L13,rfl,H0,hG,Hm,hH,hI⟩;have hJ:=hid (show Rd w13 w13.heap.size A13 13 (frameB 3 0 3 (be 7 4))from hG);have hK:=hid (show CN w13 ow13 b s5 L13 from hH);have hL:=hid (hF.out.trans hI);rw[show s4.out.length=13 from rfl];clear H0 hG Hm hH hI hF hE;go_wp2_with fail;refine(lawNumber_any 7 w13 (by decide)).mono ?_;rintro e w14 ⟨rfl,hb,hN⟩;have h5:w13.heap.size<w14.heap.size:=by
  obtain⟨ad2,e2,gf,hc⟩:=hb.2 (by decide);injection e2 with e2
  subst e2;exact(World.block_lt_of_cell? w14 _ (hc 0 (by decide)))
 have hO:=hid (hb.more h5);have hd:=hid hN;clear hb hN h5;go_wp2_with fail;refine(lawFrame_any (some ⟨w13.heap.size,0,none⟩) 4 4 3 0 3 w14.heap.size (be 7 4) w14 hO.out (Nat.le_refl _) (by decide) (by decide) (by decide) (by decide)).mono ?_;rintro e w15 ⟨A15,c15,rfl,hP,hQ⟩;have h4:=hid (hd.out.trans (hQ.mono hd.out.size));have hR:=hid hP.rd;have h6:=hid (hJ.out.below h4.out);have he:=hid (hK.out.below h4.out);have hS:=hid (hL.out.trans (Fr.below h4.out ow13));clear hP hQ hd hO hJ hK hL h4;go_wp2_with fail;refine(sameBytes_any A13 A15 13 13 c13 c15 _ _ w15 _ _ h6.out hR.out).mono ?_;rintro e w16 ⟨rfl,hw⟩;subst w16;rw[show decide (frameB 3 0 3 (be 7 4)=frameB 3 0 3 (be 7 4))=true from decide_eq_true rfl];clear h6 hR;go_wp2_with fail;refine(lawFrame_any none 0 0 0 0 9 w15.heap.size [] w15 ⟨rfl,λh=>absurd h (by omega)⟩ (Nat.le_refl _) (by decide) (by decide) (by decide) (by decide)).mono ?_;rintro e w17 ⟨A17,c17,rfl,hT,hf⟩;have hh:=hid hT;have hU:=hid (he.out.below hf);have hi:=hid (hS.out.trans (Fr.below hf ow13));have hV:=hid ((HE.out.of H2.out H3.out).fr hi.out);clear hT hf;go_wp2_with fail;refine(feed_any w17 ow13 b s5 L13 _ 1 A17 _ c17 _ hV.out hU.out hh.out.rd (hh.out.tagged he.out.new) rfl (by show 0+(9+0)<=_;decide) runs3).mono ?_;rintro e w18 ⟨M18,A18,c18,ow18,L18,rfl,rfl,H1,hX,hY,h0,_,_⟩;rw[show s6.evs.length=1 from rfl]at h0 ⊢;obtain⟨ad3,_,rfl,_⟩:=h0.at2 (j:=0) (by decide);have k00:w18.cell? ad3=some (.int .i64 8):=(ev_at h0 (j:=0) (x:={kind:=8,code:=1}) rfl).1;have Hn:=hid hX;have Ho:=hid (hi.out.trans hY);have HK:=hid k00;clear H1 hX hY h0 k00 hU hi hV hh he hS;go_wp2_with fail;refine(dead_any w18 ow18 b _ L18 Hn.out).mono ?_;rintro e w19 ⟨rfl,m,rfl⟩;have k00:(w18.drewN m).cell? ad3=some (.int .i64 8):=HK.out;rw[show((({s6 with evs:=[]}:Cv).code:Nat):Int)=1 from rfl,show({s6 with evs:=[]}:Cv).dead=true from rfl];go_wp2;go_ret;exact⟨rfl,(Ho.out.trans (Fr.drewN w18 ow18 m)).toBelow H2.out H3.out⟩
end Go.Proofs.YtkpppjhbmnfmkaaGreatDoor
end

section
namespace Go.Proofs.YtkpppjhbmnfmkaaGreatDoor
open Go.RowKit Go.Own Go.Own.Im Go.Own.Cx Go.Own.Fr Go.Own.Hd
structure EnvS (w:World) (a1 a2:Addr):Prop where
 wd:EnvW w
 role:w.cell? ⟨1,0,none⟩=some (.iface 327 (.pointer (some a1)))
 num:w.cell? ⟨2,0,none⟩=some (.iface 327 (.pointer (some a2)))
end Go.Proofs.YtkpppjhbmnfmkaaGreatDoor
end

section
namespace Go.Own
open Go.RowKit Go.WideShapes Go.ChangeShapes Go.Joins Go.Deep Go.WideElems
section
variable {H:Type} {enc:TypeId×Value->H} {P:Program} {w:World} {base:Nat} {spare:Nat->Bool} {held:Bool}
end
theorem sentinel_full {P:Program} {W:World} {l:List (String×DataW Unit)} {n:String} {text:List UInt8} {g ti tp te ts:Nat} {ms:Array (String×TypeId)} {f:Field} (h:laidMet P l W)
 (hm:(n,DataW.iface "*errors.errorString" (.ptr (.agg [.lit (.string text)])))∈l) (hg:P.globalNamed n=some g) (ht:(P.globals[g]?).map (·.type)=some ti)
 (hi:P.underlying ti=some (.interface ms)) (hrow:∀u,P.typeName? 3 u=some "*errors.errorString" ->u=tp)
 (hp:P.underlying tp=some (.pointer te)) (he:P.underlying te=some (.struct #[f])) (hft:f.type=ts) (hfo:f.offset=0) (hs:P.underlying ts=some .string) (hc:P.cellsOf te=1) (hcs:P.cellsOf ts=1):
 ∃a s,W.cell? ⟨g,0,none⟩=some (.iface tp (.pointer (some a)))/\W.cell? a=some (.string s)/\s.data.toList=text/\∃c t,W.heap[a.block]?=some (.cells c t (0,0)):=by
 obtain⟨ps,hl,_,hrows⟩:=h;obtain⟨g',t,cs,fuel,p,hg',ht',hv,hd,hin⟩:=laidVars_mem hl hm;obtain rfl:=Option.some.inj (hg.symm.trans hg');obtain rfl:=Option.some.inj (ht.symm.trans ht');obtain⟨lc⟩:=cs;have ok:∀u v,lc=[.iface u v]->Value.okWide P W .any 0 u v:=λu v e=>by
  subst e;exact(hrows g 0 (hin _ (by simp[MemPlace.row]))).2 u v (by simpa using World.var?_cell hg hv 0)
 obtain⟨a,s,hcs',hcell,htx,_,hpl⟩:=errorString_of_trod hi hrow hp he hft hfo hs hc hcs hd ok;refine⟨a,s,?_,hcell,htx,(hrows a.block a.off (hin _ (by rw[hpl];simp[MemPlace.row]))).1⟩;have:=World.var?_cell hg hv 0;have hcs2:lc=[.iface tp (.pointer (some a))]:=hcs';rw[this,hcs2]
 rfl
end Go.Own
namespace Go.Proofs.YtkpppjhbmnfmkaaGreatDoor
open Go.RowKit Go.Own Go.ChangeShapes Go.WideShapes
theorem sentF {W:World} {l:List (String×DataW Unit)} {n:String} {text:List UInt8} {g:Nat} (h:laidMet Tryz.prog l W)
 (hm:(n,DataW.iface "*errors.errorString" (.ptr (.agg [.lit (.string text)])))∈l) (hg:Tryz.prog.globalNamed n=some g) (ht:(Tryz.prog.globals[g]?).map (·.type)=some 28):
 ∃a s,W.cell? ⟨g,0,none⟩=some (.iface 327 (.pointer (some a)))/\W.cell? a=some (.string s)/\s.data.toList=text/\∃c t,W.heap[a.block]?=some (.cells c t (0,0)):=
 sentinel_full h hm hg ht Tryz.underlying28 rowErr Tryz.underlying327 Tryz.underlying329 rfl rfl Tryz.underlying9 cellsErr cellsStr
theorem tab_eq:(Rows.laid_internal_strconv_uint64pow10:DataW Unit)=Lib.tabData .u64 Lib.pow10Tab:=by kernel_rfl
theorem envS_of {W:World} {l:List (String×DataW Unit)} (h:laidMet Tryz.prog l W) (hsh:W.ShapedOpen Tryz.prog)
 (h1:("parley/api.ErrHead",Rows.laid_parley_api_ErrHead)∈l) (h2:("strconv.ErrSyntax",Rows.laid_strconv_ErrSyntax)∈l) (h3:("strconv.ErrRange",Rows.laid_strconv_ErrRange)∈l)
 (h4:("parley/api.ErrEnd",Rows.laid_parley_api_ErrEnd)∈l) (h5:("parley/api.ErrLong",Rows.laid_parley_api_ErrLong)∈l) (h8:("parley/api.ErrRole",Rows.laid_parley_api_ErrRole)∈l) (h9:("parley/api.ErrNumber",Rows.laid_parley_api_ErrNumber)∈l)
 (h6:("internal/strconv.uint64pow10",Rows.laid_internal_strconv_uint64pow10)∈l) (h7:("parley/api.ErrHuff",Rows.laid_parley_api_ErrHuff)∈l)
 (h10:("parley/api.ErrIndex",Rows.laid_parley_api_ErrIndex)∈l) (h11:("parley/api.ErrTable",Rows.laid_parley_api_ErrTable)∈l) (h12:("parley/api.ErrList",Rows.laid_parley_api_ErrList)∈l) (h13:("parley/api.ErrGone",Rows.laid_parley_api_ErrGone)∈l) (h14:("parley/api.ErrWindow",Rows.laid_parley_api_ErrWindow)∈l):∃a1 a2,EnvS W a1 a2:=by
 obtain⟨a1,c1⟩:=sent (g:=0) h h1 (by kernel_rfl) (by kernel_rfl);obtain⟨a2,c2⟩:=sent (g:=14) h h2 (by kernel_rfl) (by kernel_rfl);obtain⟨a3,c3⟩:=sent (g:=15) h h3 (by kernel_rfl) (by kernel_rfl);obtain⟨a4,s4,c4,t4,x4,b4⟩:=sentF (g:=10) h h4 (by kernel_rfl) (by kernel_rfl);obtain⟨a5,s5,c5,t5,x5,b5⟩:=sentF (g:=5) h h5 (by kernel_rfl) (by kernel_rfl);obtain⟨a8,c8⟩:=sent (g:=1) h h8 (by kernel_rfl) (by kernel_rfl);obtain⟨a9,c9⟩:=sent (g:=2) h h9 (by kernel_rfl) (by kernel_rfl);have hne:a4≠a5:=λe=>by
  rw[e,t5]at t4;injection t4 with t4
  injection t4 with t4
  rw[t4,x4]at x5;exact absurd x5 (by decide)
 obtain⟨m,cm⟩:=Go.Proofs.cell_of_shapedOpen_int (P:=Tryz.prog) (g:=13) (zero:=#[.int .i64 0]) (t:=3) hsh (of_decide_eq_true (by kernel_rfl)) (by kernel_rfl) rfl (by kernel_rfl) (by kernel_rfl) Tryz.underlying3;have r2:=Lib.laidMet.reads h h6;rw[tab_eq]at r2;obtain⟨g,t,cs,fuel,p,hg,hty,hvar,hd⟩:=r2;obtain rfl:=Option.some.inj ((show Tryz.prog.globalNamed "internal/strconv.uint64pow10" =some 17 by kernel_rfl).symm.trans hg);obtain rfl:=Option.some.inj ((show(Tryz.prog.globals[17]?).map (·.type)=some 331 by kernel_rfl).symm.trans hty);have hcs:=Lib.cells_of_tab Tryz.underlying331 Tryz.underlying228 (by kernel_rfl) (by kernel_rfl) hd;have hroom:20<=W.heap.size:=by
  obtain⟨o,_,ho,_⟩:=hsh.2 (Tryz.prog.globals.size) (Nat.le_refl _) (of_decide_eq_true (by kernel_rfl));have h1:=(Array.getElem?_eq_some_iff.1 ho).1;have h2:20<=Tryz.prog.globals.size:=of_decide_eq_true (by kernel_rfl);omega
 obtain⟨ahf,chf⟩:=sent (g:=16) h h7 (by kernel_rfl) (by kernel_rfl);obtain⟨aix,cix⟩:=sent (g:=12) h h10 (by kernel_rfl) (by kernel_rfl);obtain⟨atb,ctb⟩:=sent (g:=8) h h11 (by kernel_rfl) (by kernel_rfl);obtain⟨als,cls⟩:=sent (g:=6) h h12 (by kernel_rfl) (by kernel_rfl);obtain⟨agn,cgn⟩:=sent (g:=3) h h13 (by kernel_rfl) (by kernel_rfl);obtain⟨awn,cwn⟩:=sent (g:=11) h h14 (by kernel_rfl) (by kernel_rfl);refine⟨a8,a9,⟨⟨hroom,⟨a1,a2,a3,c1,c2,c3,⟨m,cm⟩,?_,hroom⟩,⟨a4,a5,hne,c4,c5,b4,b5⟩,⟨hroom,⟨_,c5⟩,⟨_,c4⟩,⟨_,cix⟩,⟨_,ctb⟩,⟨_,cls⟩,⟨_,chf⟩,⟨_,cgn⟩,⟨_,cwn⟩,m,cm⟩⟩,c8,c9⟩⟩;unfold Lib.TabIs;rw[hvar,<-hcs]
end Go.Proofs.YtkpppjhbmnfmkaaGreatDoor
end

section
namespace Go.Proofs.YtkpppjhbmnfmkaaGreatDoor
open Go.RowKit Go.Own Go.Own.Im Go.Own.Cx Go.Own.Fr
theorem greet_same {M:Cv} (hg:M.greeted=true):({M with greeted:=true}:Cv)=M:=by
 cases M;simp only at hg;subst hg
 rfl
end Go.Proofs.YtkpppjhbmnfmkaaGreatDoor
end

section
set_option maxHeartbeats 8000000
set_option maxRecDepth 100000
namespace Go.Proofs.YtkpppjhbmnfmkaaGreatDoor
open Lib (hid)
open Go.RowKit Go.Own Go.Own.Im Go.Own.Cx Go.Own.Fr
theorem takes_cont (M:Cv) (f s:Nat) (p:List UInt8) (hg:M.greeted=true) (hl:M.list=none) (hf:f<=255):TakesP M 9 f s p (λM'=>M'=M) 1 0:=by
 intro w ow b L A c hE h hr h4 hc;have hM:({M with greeted:=true}:Cv)=M:=by
  cases M;simp only at hg;subst hg
  rfl
 have HX:=hid (Blk.new w 24 #[.int .i64 9,.int .i64 (f:Nat),.int .i64 (s:Nat),.slice A p.length c]);have h2:=hid ((Below.refl w.heap.size w).alloc (Nat.le_refl _) (.cells #[.int .i64 9,.int .i64 (f:Nat),.int .i64 (s:Nat),.slice A p.length c] 24));have HC:=hid h;have e1:bits .and .i64 (f:Int) 1=((f&&& 1:Nat):Int):=and_nat f 1 (by omega) (by omega);obtain⟨q,hq⟩:∃q,f&&& 1=q:=⟨_,rfl⟩;rw[hq]at e1;have HL:=hid (show L.list= .pointer none from by have:=h.p.lst;rw[hl]at this;exact this);have h5:=hid hg;have HM:=hid hM;clear h hr h4 hc hE hg hl hM hf hq;go_enter Tryz.func72,Tryz.ntmps72;go_upto_region 1 with fail;generalize w.alloc (.cells #[.int .i64 9,.int .i64 (f:Nat),.int .i64 (s:Nat),.slice A p.length c] 24)=W0 at*
 have h1:=hid (HC.out.below h2.out);have x0:W0.cell? ⟨w.heap.size,0,none⟩=some (.int .i64 9):=HX.out.cell 0;have x1:W0.cell? ⟨w.heap.size,1,none⟩=some (.int .i64 (f:Nat)):=HX.out.cell 1;have c4:W0.cell? ⟨b,4,none⟩=some (.bool M.greeted):=h1.out.blk.cell 4;rw[h5.out]at c4;have f4:=h1.out.blk.frozen 4;go_upto_region 5 with fail;have h0:=h1.out.greets;rw[HM.out]at h0;have h3:=hid h0.1;have h6:=hid ((Fr.below h2.out ow).trans h0.2);have h7:=hid (HX.out.far (p:=⟨b,4,none⟩) (by have:=HC.out.blk.lt;show w.heap.size≠b;omega) (.bool true));clear h0 x0 x1 c4 f4;generalize W0.setCell ⟨b,4,none⟩ (.bool true)=W1 at*
 have x0:W1.cell? ⟨w.heap.size,0,none⟩=some (.int .i64 9):=h7.out.cell 0;have c16:W1.cell? ⟨b,16,none⟩=some L.list:=h3.out.blk.cell 16;rw[HL.out]at c16;go_wp2_with fail;go_quiet (fail);go_wp2_with fail;refine(give_any 1 0 _).mono ?_;rintro e w2 ⟨rfl,hw⟩;subst w2;go_wp2;exact⟨rfl,M,ow,L,rfl,rfl,h3.out.drewN _,h6.out.trans (Fr.drewN _ ow _)⟩
theorem hello1_any (w:World):Calls Tryz.prog 11 #[.int .i64 1] w λe w'=>∃A c,e= .returned (.slice A 9 c)/\Oz w' (λg=>w.heap.size<=g) (.slice A 9 c) (frameB 4 0 0 [])/\Below w.heap.size w w':=by
 have HF:=hid (lawFrame_any none 0 0 4 0 0 w.heap.size [] w ⟨rfl,λh=>absurd h (by omega)⟩ (Nat.le_refl _) (by omega) (by omega) (by omega) (by omega));go_enter Tryz.func11,Tryz.ntmps11;go_wp2_with fail;refine HF.out.mono ?_;rintro e w1 ⟨A1,c1,rfl,h0,h1⟩;have h2:=hid (Oz.of_ow (own:=λg=>w.heap.size<=g) h0 (λg hg=>(h0.lt hg).2));have h3:=hid h1;clear h0 h1;go_wp2;go_ret;exact⟨A1,c1,rfl,h2.out,h3.out⟩
theorem runs_hello2 (M:Cv) (hd:M.dead=false) (hl:M.list=none) (ho:M.out.length<=1000000000) (hn:M.evs.length<=900000):Runs 26 {M with preface:=0,fed:=prefB++frameB 4 0 0 []} (λM'=>M'=setM {M with preface:=24,fed:=[]}):=by
 refine runs_pref (n:=2) M (frameB 4 0 0 []) hd ?_ 24 (Nat.le_refl _);refine .more hd (step_takes _ _ 4 0 0 [] [] rfl (by show frameB 4 0 0 []=_;rw[List.append_nil]) (by decide) (by decide) (by decide) (by decide) (takes_set _ hl ho hn)) λM1 h1=>?_;subst h1;exact .stop hd ((step_few _ rfl (by show([]:List UInt8).length<9;decide)).mono λM' h'=>h')
theorem runs_hello1 (M:Cv) (hp:M.preface=24) (hd:M.dead=false) (hl:M.list=none) (ho:M.out.length<=1000000000) (hn:M.evs.length<=900000):Runs 2 {M with fed:=frameB 4 0 0 []} (λM'=>M'=setM {M with fed:=[]}):=by
 refine .more hd (step_takes _ _ 4 0 0 [] [] hp (by show frameB 4 0 0 []=_;rw[List.append_nil]) (by decide) (by decide) (by decide) (by decide) (takes_set _ hl ho hn)) λM1 h1=>?_;subst h1;exact .stop hd ((step_few (setM {M with fed:=[]}) hp (by show([]:List UInt8).length<9;decide)).mono λM' h'=>h')
end Go.Proofs.YtkpppjhbmnfmkaaGreatDoor
end

section
namespace Go.Proofs.YtkpppjhbmnfmkaaGreatDoor
open Go.RowKit Go.Own Go.Own.Im Go.Own.Cx Go.Own.Fr
section
variable {w:World} {ow:Nat->Tg} {b:Nat} {M:Cv} {L:Lay} {a:Addr}
end
end Go.Proofs.YtkpppjhbmnfmkaaGreatDoor
end

section
namespace Go.Proofs.YtkpppjhbmnfmkaaGreatDoor
open Go.RowKit Go.Own Go.Own.Im Go.Own.Cx Go.Own.Fr
section
variable {w:World} {ow:Nat->Tg} {b:Nat} {M:Cv} {L:Lay} {a:Addr}
end
end Go.Proofs.YtkpppjhbmnfmkaaGreatDoor
end

section
namespace Go.Proofs.YtkpppjhbmnfmkaaGreatDoor
open Go.RowKit Go.Own Go.Own.Im Go.Own.Cx Go.Own.Fr
section
variable {wA w8:World} {ow:Nat->Tg} {b:Nat} {M:Cv} {L:Lay} {row:Option Nat}
end
section
variable {w:World} {ow:Nat->Tg} {b:Nat} {M:Cv} {L:Lay} {a:Addr}
end
end Go.Proofs.YtkpppjhbmnfmkaaGreatDoor
end

section
namespace Go.Proofs.YtkpppjhbmnfmkaaGreatDoor
open Go.RowKit Go.Own Go.Own.Im Go.Own.Cx Go.Own.Fr
section
variable {w:World} {ow:Nat->Tg} {b:Nat} {M:Cv} {L:Lay}
end
end Go.Proofs.YtkpppjhbmnfmkaaGreatDoor
end

section
namespace Go.Proofs.YtkpppjhbmnfmkaaGreatDoor
open Go.RowKit Go.Own Go.Own.Im Go.Own.Cx Go.Own.Fr
attribute [local go_sem] Oper.semAt_some
end Go.Proofs.YtkpppjhbmnfmkaaGreatDoor
end

section
namespace Go.Proofs.YtkpppjhbmnfmkaaGreatDoor
open Go.RowKit Go.Own Go.Own.Im Go.Own.Cx Go.Own.Fr
attribute [local go_sem] Oper.semAt_some
end Go.Proofs.YtkpppjhbmnfmkaaGreatDoor
end

section
namespace Go.Proofs.YtkpppjhbmnfmkaaGreatDoor
open Go.RowKit Go.Own Go.Own.Im Go.Own.Cx Go.Own.Fr Go.Own.Hd
end Go.Proofs.YtkpppjhbmnfmkaaGreatDoor
end

section
namespace Go.Proofs.YtkpppjhbmnfmkaaGreatDoor
open Go.RowKit Go.Own Go.Own.Im Go.Own.Cx Go.Own.Fr Go.Own.Hd
def SideOk (s:Nat):Prop:=s=1\/s=2
def hB (s:Nat):List UInt8:=if s=1 then frameB 4 0 0 []else prefB++frameB 4 0 0 []
theorem helloS_any (s:Nat) (hs:s=1\/s=2) (w:World):Calls Tryz.prog 11 #[.int .i64 (s:Nat)] w λe w'=>∃A n c,e= .returned (.slice A n c)/\n<=33/\Oz w' (λg=>w.heap.size<=g) (.slice A n c) (hB s)/\Below w.heap.size w w':=by
 rcases hs with rfl|rfl
 · refine(hello1_any w).mono ?_
   rintro e w' ⟨A,c,h1,h2,h3⟩;exact⟨A,9,c,h1,by decide,h2,h3⟩
 · refine(hello2_any w).mono ?_
   rintro e w' ⟨A,c,h1,h2,h3⟩;exact⟨A,33,c,h1,by decide,h2,h3⟩
theorem newS_any (s:Nat) (hs:s=1\/s=2) (w:World) (cw cs:Nat) (hw:cw<=2147483647) (hc:cs<=100):
 Calls Tryz.prog 9 #[.int .i64 (s:Nat),.agg #[.int .i64 (cw:Nat),.int .i64 (cs:Nat)]] w λe w'=>∃b ow L,e= .returned (.tuple #[.pointer (some ⟨b,0,none⟩),.nilIface])/\CN w' ow b (newM s cw cs) L/\Below w.heap.size w w'/\∀g,g<w.heap.size->ow g= .no:=by
 rcases hs with rfl|rfl
 · exact new1_any w cw cs hw hc
 · exact new2_any w cw cs hw hc
def gM (s cs:Nat):Cv:={setM {newM s 65535 cs with preface:=24}with evs:=[]}
theorem Runs.le {n:Nat} {M:Cv} {S:Cv->Prop} (h:Runs n M S):∀{m:Nat},n<=m->Runs m M S:=by
 induction h with
 |dead h1 h2=>exactλ_=>.dead h1 h2
 |stop h1 h2=>exactλ_=>.stop h1 h2
 |more h1 h2 _ ih=>
  intro m hm;obtain⟨m',rfl⟩:∃m',m=m'+1:=⟨m-1,by omega⟩;exact .more h1 h2 λM1 h=>ih M1 h (by omega)
theorem runs_helloS (s cs:Nat) (hs:s=1\/s=2):Runs 26 {newM s 65535 cs with evs:=[],fed:=(newM s 65535 cs).fed++hB s} (λM'=>M'=setM {newM s 65535 cs with preface:=24}):=by
 have h0:∀s cs,(newM s 65535 cs).out.length<=1000:=λs cs=>by
  unfold newM newM0;simp only[List.length_append]
  split<;>simp[frameB,setB,be,prefB]
 rcases hs with rfl|rfl
 · exact(runs_hello1 (newM 1 65535 cs) rfl rfl rfl (by have:=h0 1 cs;omega) (by show 0<=_;omega)).le (by omega)
 · exact runs_hello2 (newM 2 65535 cs) rfl rfl (by have:=h0 2 cs;omega) (by show 0<=_;omega)
theorem gM_out (s cs:Nat):(gM s cs).out.length<=1000:=by
 unfold gM setM newM newM0;simp only[List.length_append]
 split<;>simp[frameB,setB,be,prefB]
end Go.Proofs.YtkpppjhbmnfmkaaGreatDoor
end
