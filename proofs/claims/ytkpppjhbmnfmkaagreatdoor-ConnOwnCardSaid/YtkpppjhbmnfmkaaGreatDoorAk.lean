import Derived.Test.YtkpppjhbmnfmkaaGreatDoorAj
import Derived.Test.YtkpppjhbmnfmkaaGreatDoorAi
import Derived.Test.YtkpppjhbmnfmkaaGreatDoorJap
import Derived.Test.YtkpppjhbmnfmkaaGreatDoorJbb
import Derived.Test.YtkpppjhbmnfmkaaGreatDoorJat
import Derived.Test.YtkpppjhbmnfmkaaGreatDoorJaf
import Derived.Test.YtkpppjhbmnfmkaaGreatDoorJba
set_option linter.unusedSimpArgs false
set_option linter.unusedVariables false
namespace Go.Proofs.YtkpppjhbmnfmkaaGreatDoor
open Go.RowKit Go.Own Go.Own.Im Go.Own.Cx Go.Own.Fr Go.Own.Hd
theorem snd_whole (n:Nat) (M:Cv) (s:Sv) (hn:s.waits.length=n) (hR:Rdy M s) (hn2:n<=16384) (cw sw:Nat) (h4:M.outw=(cw:Int)) (h5:s.outw=(sw:Int)) (hc2:n<=cw/\cw<=2000000) (hs2:n<=sw/\sw<=2000000) (ho:M.out.length<=800000000):
 Snd 1 M (pM M s n [⟨0,1,s.id,s.waits⟩]):=by
 have h1:∀M':Cv,M'.strs=[s]->s∈M'.strs:=λM' h=>by rw[h];exact List.mem_singleton.2 rfl
 rcases Nat.eq_zero_or_pos n with h0|h0
 · subst h0
   have hw:s.waits=[]:=List.eq_nil_of_length_eq_zero hn;rw[hw];refine .more ⟨hR.dead,s,hR.strs,hR.id.2⟩ (M1:=pM M s 0 [⟨0,1,s.id,[]⟩]) ?_ ?_ ?_
   · intro w ow b L s' hc h2
     obtain rfl:=one_eq hR.strs h2;have h:=sends_end w ow b M L s' hc (h1 M hR.strs) (ndp hR.strs) hR.id hR.own hR.trails hR.held hw (by omega);have e:finM (endedC M s') s' true=pM M s' 0 [⟨0,1,s'.id,[]⟩]:=by
      unfold finM;rw[if_pos rfl,if_neg hR.other];show({M with out:=M.out++frameB 0 1 s'.id [],strs:=updS M.strs {s' with own:=3}}:Cv)=_;rw[hR.strs,upd_one s' {s' with own:=3} rfl];unfold pM pS;rw[hw];simp[fmsB,Fm.b]
     rw[e]at h;exact h
   · show M.out.length<(M.out++fmsB [⟨0,1,s.id,[]⟩]).length
     rw[List.length_append];simp[fmsB,Fm.b,frameB_len]
   · exact stop_still (s:=pS s 0) rfl hR.dead hR.id.2 ⟨by unfold pS;rw[hw];rfl,by unfold pS;rw[hn];exact(show(3:Nat)≠2 by decide)⟩
 · obtain⟨r,hr⟩:∃r,n=r:=⟨_,rfl⟩
   subst hr;have h3:prm (min (n:Int) 16384) M.outw s.outw=(n:Int):=by rw[h4,h5];unfold prm;omega
   have hz:=h0;have h6:s.waits.take n=s.waits:=by rw[<-hn];exact List.take_length
   rw[<-h6];refine .more ⟨hR.dead,s,hR.strs,hR.id.2⟩ (M1:=pM M s n [⟨0,1,s.id,s.waits.take n⟩]) ?_ ?_ ?_
   · intro w ow b L s' hc h2
     obtain rfl:=one_eq hR.strs h2;have h:=sends_data w ow b M L s' n n true hc (h1 M hR.strs) (ndp hR.strs) hR.id hR.own hR.trails hR.held hn (by omega) h3 hz (decide_eq_true rfl).symm (by rw[h4];omega) (by rw[h5];omega) (by omega);have e:finM (goneC M s' n true) (goneS s' n) true=pM M s' n [⟨0,1,s'.id,s'.waits.take n⟩]:=by
      unfold finM;rw[if_pos rfl,if_neg (show¬(goneS s' n).other=3 from hR.other)];show({M with outw:=M.outw-n,out:=M.out++frameB 0 1 s'.id (s'.waits.take n),strs:=updS (updS M.strs (goneS s' n)) {goneS s' n with own:=3}}:Cv)=_;rw[hR.strs,upd_one s' (goneS s' n) rfl,upd_one (goneS s' n) {goneS s' n with own:=3} rfl];unfold pM pS goneS;rw[hn,if_pos rfl];simp[fmsB,Fm.b]
     rw[e]at h;exact h
   · show M.out.length<(M.out++fmsB [⟨0,1,s.id,s.waits.take n⟩]).length
     rw[List.length_append];simp[fmsB,Fm.b,frameB_len];omega
   · exact stop_still (s:=pS s n) rfl hR.dead hR.id.2 ⟨by unfold pS;show s.waits.drop n=[];rw[<-hn];exact List.drop_length,by unfold pS;rw[hn,if_pos rfl];exact(show(3:Nat)≠2 by decide)⟩
def sets3:List (Nat×Nat):=[(2,0),(4,65535),(6,16384)]
theorem sets3_ok:∀s∈sets3,s.1<65536/\s.2<4294967296/\badSet s=none:=by
 intro s hs;simp only[sets3,List.mem_cons,List.not_mem_nil,or_false]at hs;rcases hs with rfl|rfl|rfl<;>decide
theorem sets3_fold (M:Cv) (ho:M.others=65535):sets3.foldl set1 M=M:=by
 have e:set1 M (2,0)=M:=rfl;have e2:set1 M (4,65535)=M:=by
  show({M with others:=((65535:Nat):Int)}:Cv)=M;cases M;simp only at ho;subst ho
  rfl
 have e3:set1 M (6,16384)=M:=rfl;show set1 (set1 (set1 M (2,0)) (4,65535)) (6,16384)=M;rw[e,e2,e3]
theorem takes_set3 (M:Cv) (hl:M.list=none) (hs:M.strs=[]) (hot:M.others=65535) (ho:M.out.length<=1000000000) (hn:M.evs.length<=900000):TakesT M 4 0 0 (setB sets3) (λM'=>M'=setM M):=by
 intro w ow b L A c hE h hr h2 hc;have h1:(setB sets3).length=18:=by decide
 have h3:opn 4 0 0 (setB sets3)= .ok {typ:=4,sets:=sets3}:=opn_set sets3 sets3_ok;refine takes_any w ow b M L _ 4 0 0 155 #[.pointer (some ⟨b,0,none⟩)] (λ_=>#[]) A _ c (setB sets3) {typ:=4,sets:=sets3} h hr h2 hc (by rw[h1];decide) (by decide) (by decide) (by decide) rfl (by decide) hl (by decide) (.inr ⟨rfl,by decide⟩) h3 (λg=>rfl) enter_settings (λe w' hq=>.inl hq.ret) ?_;intro W g sv dv h4 h5 h6 hg h0 hd;obtain⟨A5,c5,rfl,_,_⟩:=h0.form;have h9:=settings_any W ow b {M with greeted:=true} L {typ:=4,sets:=sets3} A5 c5 dv (.int .i64 ((setB sets3).length:Nat)) h4 rfl (SetR.of_own h0) (λad e=>h.new _ (h0.lt _ (by rw[e];rfl)).1) (by decide) (by decide) hs ho hn;rw[show({typ:=4,sets:=sets3}:Inf).sets=sets3 from rfl,sets3_fold _ (by exact hot)]at h9;exact h9.mono λe w' hp=>⟨_,rfl,hp.trans h5⟩
def oM:Cv:=setM {newM 2 65535 10 with preface:=24}
def oS:Sv:={id:=1,other:=1,inw:=65535,outw:=65535}
theorem flag4o:((if false then 1 else 0)|||(if true then 4 else 0):Nat)=4:=by decide
theorem runs_own (bl p:List UInt8) (hs:List HdrV) (t':Hk.TM) (hbl:bl.length<=16384) (hdec:Hk.decP {} bl=some (hs,t')) (h0:0<hs.length) (ho:(openS rules4 hs req0).isSome=true) (hp:p.length<=8000):
 Runs 27 {newM 2 65535 10 with evs:=[],fed:=(newM 2 65535 10).fed++(prefB++(frameB 4 0 0 (setB sets3)++(frameB 1 4 1 bl++frameB 0 1 1 p)))} (λM'=>∃A c A2 c2,M'=dataMG (doneM oM 1 false hs t' A c) oS p.length p true A2 c2):=by
 have h:=runs_pref (S:=λM'=>∃A c A2 c2,M'=dataMG (doneM oM 1 false hs t' A c) oS p.length p true A2 c2) (n:=3) (newM 2 65535 10) (frameB 4 0 0 (setB sets3)++(frameB 1 4 1 bl++frameB 0 1 1 p)) rfl ?_ 24 (Nat.le_refl _)
 · have e:({newM 2 65535 10 with evs:=[],fed:=(newM 2 65535 10).fed++(prefB++(frameB 4 0 0 (setB sets3)++(frameB 1 4 1 bl++frameB 0 1 1 p)))}:Cv)={newM 2 65535 10 with preface:=24-24,fed:=prefB.drop (24-24)++(frameB 4 0 0 (setB sets3)++(frameB 1 4 1 bl++frameB 0 1 1 p))}:=rfl
   rw[e];exact h
 · refine .more rfl (step_takes _ _ 4 0 0 (setB sets3) (frameB 1 4 1 bl++frameB 0 1 1 p) rfl rfl (by decide) (by decide) (by decide) (by decide) (takes_set3 _ rfl rfl rfl (by show(newM 2 65535 10).out.length<=1000000000;decide) (by show([]:List EvV).length<=900000;decide))) λM1 h1=>?_
   subst h1;refine .more rfl (step_takes _ _ 1 4 1 bl (frameB 0 1 1 p) rfl rfl (by decide) (by decide) (by decide) hbl (flag4o▸takes_openA _ 1 false bl hs t' hbl hdec rfl rfl rfl rfl rfl rfl rfl (by decide) (λs hs=>by cases hs) (by show((0:Nat):Int)<((10:Nat):Int);decide) rfl (by show(0:Int)<=65535/\(65535:Int)<=2147483647;decide) (by show(0:Int)<=65535/\(65535:Int)<=2147483647;decide) (Nat.zero_le _) (by show([]:List Nat).Nodup;exact List.nodup_nil) h0 (by show 1<=900000;decide) ho)) λM2 h2=>?_;obtain⟨A,c,rfl⟩:=h2;refine .more rfl (step_takes _ _ 0 1 1 p [] rfl (by show frameB 0 1 1 p=_;rw[List.append_nil]) (by decide) (by decide) (by decide) (by omega) (takes_dataG _ oS p true rfl rfl rfl rfl rfl (by decide) (by decide) (by show[1].Nodup;decide) (by omega) (by show(p.length:Int)<=65535/\(65535:Int)<=65535;omega) (by show(p.length:Int)<=65535/\(65535:Int)<=65535;omega) (by decide) (by show((newM 2 65535 10).out++frameB 4 1 0 []).length<=900000000;decide) (by show 2<=_;decide))) λM3 h3=>?_;obtain⟨A2,c2,rfl⟩:=h3;exact .stop rfl ((step_few _ rfl (by show([]:List UInt8).length<9;decide)).mono λM' h'=>⟨A,c,A2,c2,h'⟩)
end Go.Proofs.YtkpppjhbmnfmkaaGreatDoor
