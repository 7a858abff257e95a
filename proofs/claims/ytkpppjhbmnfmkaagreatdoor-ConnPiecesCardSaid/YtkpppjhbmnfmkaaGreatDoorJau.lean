/-
  
  
  
-/
import Derived.Test.YtkpppjhbmnfmkaaGreatDoorJaq
import Derived.Test.YtkpppjhbmnfmkaaGreatDoorJan
import Derived.Test.YtkpppjhbmnfmkaaGreatDoorJam
import Derived.Test.YtkpppjhbmnfmkaaGreatDoorKq
import Derived.Test.YtkpppjhbmnfmkaaGreatDoorJap
import Derived.Test.YtkpppjhbmnfmkaaGreatDoorJak
set_option linter.unusedSimpArgs false
set_option linter.unusedVariables false
section
namespace Go.Proofs.YtkpppjhbmnfmkaaGreatDoor
open Go.RowKit Go.Own Go.Own.Im Go.Own.Cx Go.Own.Fr Go.Own.Hd
theorem enter_settings:Enters Tryz.prog 155:=enters_of Tryz.func155 (by kernel_rfl) rfl
theorem enter_works1:Enters Tryz.prog 149:=enters_of Tryz.func149 (by kernel_rfl) rfl
theorem enter_cdata:Enters Tryz.prog 148:=enters_of Tryz.func148 (by kernel_rfl) rfl
def setM (M:Cv):Cv:={M with greeted:=true,out:=M.out++frameB 4 1 0 [],evs:=M.evs++[{kind:=7}]}
theorem takes_set (M:Cv) (hl:M.list=none) (ho:M.out.length<=1000000000) (hn:M.evs.length<=900000):TakesT M 4 0 0 [] (λM'=>M'=setM M):=by
 intro w ow b L A c hE h hr h0 hc;have h1:opn 4 0 0 []= .ok {typ:=4}:=opn_set [] (by simp);refine takes_any w ow b M L _ 4 0 0 155 #[.pointer (some ⟨b,0,none⟩)] (λ_=>#[]) A 0 c [] {typ:=4} h hr h0 hc (by decide) (by decide) (by decide) (by decide) rfl (by decide) hl (by decide) (.inr ⟨rfl,by decide⟩) h1 (λg=>rfl) enter_settings (λe w' hq=>.inl hq.ret) ?_;intro W g sv dv h2 h3 h4 hg hs hd;obtain⟨A5,c5,rfl,_⟩:=hs.form;exact(settings_none W ow b {M with greeted:=true} L {typ:=4} A5 c5 dv (.int .i64 (0:Nat)) h2 rfl ho hn).mono λe w' hp=>⟨_,rfl,hp.trans h3⟩
theorem takes_heads (M:Cv) (S:Cv->Prop) (id:Nat) (fin:Bool) (l:List UInt8) (hs:List HdrV) (h7:Hk.decP M.hp.dt l=some (hs,M.hp.dt)) (hlen:l.length<=100) (hg:M.greeted=true) (ho:M.hp.dgone=false) (hl:M.list=none) (h2:M.side=2) (h8:id % 2=1) (hk:knownB M id=false) (h9:strAt M (id:Int)=none) (hid:id<=2147483647)
 (hop:∀W ow b L A c,Env W ow->CN W ow b M L->hs.length<=c->Cm.RS hdrC 3 W W.heap.size A hs.length hs->(0<hs.length->∀ad,A=some ad->ow ad.block= .evd)->Calls Tryz.prog 196 #[.pointer (some ⟨b,0,none⟩),.int .i64 (id:Nat),.slice A hs.length c,.bool fin] W (CPostS W ow b S (.tuple #[]))):
 TakesT M 1 ((if fin then 1 else 0)|||(if true then 4 else 0)) id l S:=by
 intro w ow b L A c hE h hr ht hc;have he:id≠0:=by omega
 have hM:({M with greeted:=true,list:=none}:Cv)=M:=by
  cases M;simp only at hg hl;subst hg hl
  rfl
 refine takes_any w ow b M L _ 1 _ id 149 #[] (λg=>#[.pointer (some ⟨g,0,none⟩)]) A l.length c l {typ:=1,stream:=id,endd:=fin,endHeads:=true,data:=l} h hr ht hc (by omega) (by decide) (by cases fin<;>decide) hid (by cases fin<;>rfl) (by cases fin<;>decide) hl (by decide) (.inl hg) (opn_heads id he fin true l) (λg=>rfl) enter_works1 (λe w' hq=>.inl hq.ret) ?_;intro W g sv dv hu hn hw hA hI hd;obtain⟨A6,c6,rfl,hf,_,hh⟩:=hd.form;refine(works1_any W ow b g {M with greeted:=true} S L {typ:=1,stream:=id,endd:=fin,endHeads:=true,data:=l} sv _ _ hu hw (h.new g hA) h2 h8 ?_).mono λe w' hp=>hp.trans hn;intro W2 ow2 L2 hC h5;have h6:Env W2 ow2:=(hE.fr hn).fr h5;have h3:0<l.length->∀ad,A6=some ad->ow ad.block= .no:=λhH ad ha=>by
  refine h.new _ ?_;rcases hd.2 with⟨e,h0⟩|⟨g,cap,cur,e,hb,_⟩
  · have h0:l.length=0:=h0
    omega
  · injection e with e
    rw[ha]at e;injection e with e
    rw[e];exact hb
 have hi:Rd W2 W2.heap.size A6 l.length l:=(h5.rd hh (Nat.le_refl _) h3).more h5.size;refine piece_good W2 ow2 b {M with greeted:=true,list:=some (id,fin,[])} S L2 id fin [] l {typ:=1,stream:=id,endd:=fin,endHeads:=true,data:=l} sv A6 l.length c6 hs M.hp.dt hC ⟨h6.hp,h6.no⟩ ho rfl rfl hi hf (by simp;omega) h7 h2 hk h9 hid ?_;intro W3 ow3 L3 A3 c3 hD hF hG _ hj h4;have hm:CN W3 ow3 b M L3:=by
  have h1:CN W3 ow3 b {M with greeted:=true,list:=none} L3:=hD;rw[hM]at h1;exact h1
 exact hop W3 ow3 b L3 A3 c3 (h6.fr hF) hm hG hj h4
def refM (M:Cv) (id:Nat):Cv:={M with last:=id,out:=M.out++frameB 3 0 id (be 7 4)}
theorem takes_many (M:Cv) (id:Nat) (fin:Bool) (l:List UInt8) (hs:List HdrV) (hdec:Hk.decP M.hp.dt l=some (hs,M.hp.dt)) (hlen:l.length<=100) (hg:M.greeted=true) (hdg:M.hp.dgone=false) (hl:M.list=none) (hside:M.side=2) (hodd:id % 2=1) (hk:knownB M id=false) (hnew:strAt M (id:Int)=none) (hid:id<=2147483647)
 (hm:M.cs<=(M.strs.length:Int)) (ho:M.out.length<=1000000000):TakesT M 1 ((if fin then 1 else 0)|||(if true then 4 else 0)) id l (λM'=>M'=refM M id):=
 takes_heads M _ id fin l hs hdec hlen hg hdg hl hside hodd hk hnew hid λW ow b L A c _ hc _ _ _=>(opened_many W ow b M L id _ fin hc ⟨by omega,hid⟩ hm ho).mono λ_ _ hp=>⟨_,rfl,hp⟩
def opnM (M:Cv) (id:Nat) (fin:Bool) (hs:List HdrV) (A:Option Addr) (c:Nat):Cv:=
 {M with last:=id,strs:=M.strs++[endS {id:=id,other:=1,inw:=M.window,outw:=M.others} fin],evs:=M.evs++[{kind:=1,stream:=id,fin:=fin,la:=A,lc:=c,l:=hs}]}
theorem takes_open (M:Cv) (id:Nat) (fin:Bool) (l:List UInt8) (hs:List HdrV) (hdec:Hk.decP M.hp.dt l=some (hs,M.hp.dt)) (hlen:l.length<=100) (hg:M.greeted=true) (hdg:M.hp.dgone=false) (hl:M.list=none) (hside:M.side=2) (hodd:id % 2=1) (hk:knownB M id=false) (hnew:strAt M (id:Int)=none) (hid:id<=2147483647)
 (hns:∀s∈M.strs,s.id≠id) (hm:(M.strs.length:Int)<M.cs) (hbye:M.bye=false) (h0:0<=M.window/\M.window<=2147483647) (h1:0<=M.others/\M.others<=2147483647) (hn:M.strs.length<=1000000) (hu:(M.strs.map (·.id)).Nodup) (hpos:0<hs.length) (hev:M.evs.length<=900000)
 (hz:H6.Szs hs) (hh:hs.length<=100) (ho:(openS rules4 hs req0).isSome=true):TakesT M 1 ((if fin then 1 else 0)|||(if true then 4 else 0)) id l (λM'=>∃A c,M'=opnM M id fin hs A c):=by
 refine takes_heads M _ id fin l hs hdec hlen hg hdg hl hside hodd hk hnew hid λW ow b L A c hE hc h3 h4 h2=>?_;refine(opened_ok W ow b M L id A c hs fin hc hid hns hm hbye h0 h1 hn hu h3 h4 hpos (h2 hpos) hev λW' hf hr=>?_).mono λ_ _ hp=>⟨_,⟨A,c,rfl⟩,hp⟩;obtain⟨e1,e2,e3,h5⟩:=(hE.fr hf).env;exact headOk_of h5 hh h3 (hr.more hf.size) hz ho
theorem takes_idle (M:Cv) (id:Nat) (hg:M.greeted=true) (hl:M.list=none) (hk:knownB M id=false) (h0:id≠0) (hid:id<=2147483647):TakesP M 0 0 id [] (λM'=>M'=M) 1 0:=by
 intro w ow b L A c hE h hr h2 hc;have hM:({M with greeted:=true}:Cv)=M:=by
  cases M;simp only at hg;subst hg
  rfl
 refine takes_any w ow b M L _ 0 0 id 148 #[.pointer (some ⟨b,0,none⟩)] (λ_=>#[]) A 0 c [] {typ:=0,stream:=id} h hr h2 hc (by decide) (by decide) (by decide) hid rfl (by decide) hl (by decide) (.inl hg) (opn_data id h0 false []) (λg=>rfl) enter_cdata (λe w' hq=>.inr ⟨_,hq.ret⟩) ?_;intro W g sv dv h1 h3 h4 h5 hs hd;rw[hM]at h1;exact(data_idle W ow b M L {typ:=0,stream:=id} sv dv (.int .i64 (0:Nat)) h1 hk).mono λe w' hp=>⟨M,ow,L,rfl,hp.1,h1.below hp.2,h3.trans (Fr.below hp.2 ow)⟩
theorem fault_dead (M:Cv) (c:Nat) (hc:c<4294967296) (hl:M.last<=2147483647) (ho:M.out.length<=1000000000) (hn:M.evs.length<=900000):FaultT M c 0 (λM'=>M'=deadM M c):=
 λw ow b L h=>(faulty_dead w ow b M L c h hc hl ho hn).mono λ_ _ hp=>⟨_,rfl,hp⟩
end Go.Proofs.YtkpppjhbmnfmkaaGreatDoor
end

section
namespace Go.Proofs.YtkpppjhbmnfmkaaGreatDoor
open Go.RowKit Go.Own Go.Own.Im Go.Own.Cx Go.Own.Fr Go.Own.Hd
theorem StepT.mono {M:Cv} {m:Bool} {S S2:Cv->Prop} (h:StepT M m S) (hi:∀M',S M'->S2 M'):StepT M m S2:=λw ow b L hE hc=>(h w ow b L hE hc).mono λ_ _ ⟨M',hs,hp⟩=>⟨M',hi M' hs,hp⟩
theorem runs_pref {S:Cv->Prop} {n:Nat} (M:Cv) (r:List UInt8) (hd:M.dead=false) (h:Runs n {M with preface:=24,fed:=r} S):∀k,k<=24->Runs (n+k) {M with preface:=24-k,fed:=prefB.drop (24-k)++r} S
 |0,_=>by
  have e:prefB.drop 24=[]:=rfl;rw[Nat.sub_zero,e];exact h
 |k+1,hk=>by
  have ih:=runs_pref M r hd h k (by omega);have h0:24-(k+1)<prefB.length:=by show 24-(k+1)<24;omega
  have e1:24-(k+1)+1=24-k:=by omega
  have e2:prefB.drop (24-(k+1))=prefB[24-(k+1)]::prefB.drop (24-k):=by rw[List.drop_eq_getElem_cons h0,e1]
  rw[e2];refine .more hd (step_pref {M with preface:=24-(k+1),fed:=prefB[24-(k+1)]::(prefB.drop (24-k)++r)} _ _ (List.getElem?_eq_getElem h0) rfl) λM1 h1=>?_;rw[h1];have e3:({M with preface:=24-(k+1),fed:=prefB[24-(k+1)]::(prefB.drop (24-k)++r)}:Cv).preface+1=24-k:=e1;rw[e3];exact ih
def b3:List UInt8:=[131,134,132]
def hs3:List HdrV:=[⟨⟨#[58,109,101,116,104,111,100]⟩,⟨#[80,79,83,84]⟩,false⟩,⟨⟨#[58,115,99,104,101,109,101]⟩,⟨#[104,116,116,112]⟩,false⟩,⟨⟨#[58,112,97,116,104]⟩,⟨#[47]⟩,false⟩]
theorem dec3:Hk.decP {} b3=some (hs3,{}):=by kernel_rfl
theorem opn3:(openS rules4 hs3 req0).isSome=true:=by kernel_rfl
theorem szs3:H6.Szs hs3:=by
 intro h hm;simp only[hs3,List.mem_cons,List.not_mem_nil,or_false]at hm;rcases hm with rfl|rfl|rfl<;>decide
theorem flag5:((if true then 1 else 0)|||(if true then 4 else 0):Nat)=5:=by decide
def s1:Cv:={newM 2 65535 1 with out:=[]}
def m5 (A:Option Addr) (c:Nat):Cv:=opnM (setM {s1 with preface:=24}) 1 true hs3 A c
def s2:Cv:={m5 none 0 with evs:=[]}
theorem runs1:Runs 26 {s1 with evs:=[],fed:=s1.fed++((prefB++frameB 4 0 0 [])++frameB 1 5 1 b3)} (λM'=>∃A c,M'=m5 A c):=by
 have h:=runs_pref (S:=λM'=>∃A c,M'=m5 A c) (n:=2) s1 (frameB 4 0 0 []++frameB 1 5 1 b3) rfl ?_ 24 (Nat.le_refl _)
 · have e:({s1 with evs:=[],fed:=s1.fed++((prefB++frameB 4 0 0 [])++frameB 1 5 1 b3)}:Cv)={s1 with preface:=24-24,fed:=prefB.drop (24-24)++(frameB 4 0 0 []++frameB 1 5 1 b3)}:=by
    have e1:s1.fed++((prefB++frameB 4 0 0 [])++frameB 1 5 1 b3)=prefB.drop (24-24)++(frameB 4 0 0 []++frameB 1 5 1 b3):=by
     show[]++_=_;rw[List.nil_append,List.append_assoc]
     rfl
    rw[e1]
    rfl
   rw[e];exact h
 · refine .more rfl (step_takes _ _ 4 0 0 [] (frameB 1 5 1 b3) rfl rfl (by decide) (by decide) (by decide) (by decide) (takes_set _ rfl (by decide) (by decide))) λM1 h1=>?_
   subst h1;refine .more rfl (step_takes _ _ 1 5 1 b3 [] rfl (by show frameB 1 5 1 b3=_;rw[List.append_nil]) (by decide) (by decide) (by decide) (by decide) (flag5▸takes_open _ 1 true b3 hs3 dec3 (by decide) rfl rfl rfl rfl rfl rfl rfl (by decide) (λs hs=>by cases hs) (by decide) rfl ⟨by decide,by decide⟩ ⟨by decide,by decide⟩ (by decide) (by show([]:List Nat).Nodup;exact List.nodup_nil) (by decide) (by decide) szs3 (by decide) opn3)) λM2 h2=>?_;obtain⟨A,c,rfl⟩:=h2;exact .stop rfl ((step_few _ rfl (by show([]:List UInt8).length<9;decide)).mono λM' h'=>⟨A,c,h'⟩)
end Go.Proofs.YtkpppjhbmnfmkaaGreatDoor
end

section
namespace Go.Proofs.YtkpppjhbmnfmkaaGreatDoor
open Go.RowKit Go.Own Go.Own.Im Go.Own.Cx Go.Own.Fr
theorem enter_works2:Enters Tryz.prog 151:=enters_of Tryz.func151 (by kernel_rfl) rfl
theorem greet_same {M:Cv} (hg:M.greeted=true):({M with greeted:=true}:Cv)=M:=by
 cases M;simp only at hg;subst hg
 rfl
end Go.Proofs.YtkpppjhbmnfmkaaGreatDoor
end
