/-
  
  
-/
import Derived.Test.YtkpppjhbmnfmkaaGreatDoorJbf
import Derived.Test.YtkpppjhbmnfmkaaGreatDoorJaq
import Derived.Test.YtkpppjhbmnfmkaaGreatDoorJaz
set_option linter.unusedSimpArgs false
set_option linter.unusedVariables false
section
namespace Go.Proofs.YtkpppjhbmnfmkaaGreatDoor
open Go.RowKit Go.Own Go.Own.Im Go.Own.Cx Go.Own.Fr Go.Own.Hd
def PieceT (M:Cv) (i:Inf) (l:List UInt8) (S:Cv->Prop):Prop:=∀(w:World) (ow:Nat->Tg) (b:Nat) (L:Lay) (sv:Value) (A:Option Addr) (n c:Nat),CN w ow b M L->Env w ow->Rd w w.heap.size A n l->n<=c->
 Calls Tryz.prog 150 #[.pointer (some ⟨b,0,none⟩),.agg (infC i sv (.slice A n c))] w (CPostS w ow b S (.tuple #[]))
def PieceP (M:Cv) (i:Inf) (l:List UInt8) (S:Cv->Prop) (c0 s0:Nat):Prop:=∀(w:World) (ow:Nat->Tg) (b:Nat) (L:Lay) (sv:Value) (A:Option Addr) (n c:Nat),CN w ow b M L->Env w ow->Rd w w.heap.size A n l->n<=c->
 Calls Tryz.prog 150 #[.pointer (some ⟨b,0,none⟩),.agg (infC i sv (.slice A n c))] w (PPostS w ow b S c0 s0)
def DoesP (M:Cv) (i:Inf) (l:List UInt8) (S:Cv->Prop):Prop:=PieceT M i l S\/∃c0 s0 S1,PieceP M i l S1 c0 s0/\∀M1,S1 M1->FaultT M1 c0 s0 S
def MetP (n:Nat) (K:Cv) (i:Inf) (l:List UInt8):Prop:=∃Q new,LiveQ (n+1) Q/\Tame new/\∀E r a b c,E.length<=800000->DoesP (mkC K E r a b c) i l (BehS Q new (mkC K E r a b c))
section
variable {n:Nat} {K:Cv} {i:Inf} {l:List UInt8}
theorem PieceT.mono {M:Cv} {S S2:Cv->Prop} (h:PieceT M i l S) (hs:∀M',S M'->S2 M'):PieceT M i l S2:=λw ow b L sv A n c h1 h2 h3 h4=>
 (h w ow b L sv A n c h1 h2 h3 h4).mono λe w' ⟨M',h,k⟩=>⟨M',hs _ h,k⟩
theorem metp_dies (hK:Live n K) (hn:n<=1000000) (cd:Nat) (hc:cd<=20) (hT:∀E r a b c,E.length<=800000->∃S1,PieceP (mkC K E r a b c) i l S1 cd 0/\∀M1,S1 M1->M1.out=K.out/\M1.last=K.last/\M1.side=K.side/\M1.evs=E):MetP n K i l:=by
 refine⟨deadQ K cd,deadE cd,trivial,tame_one (Nat.zero_le _),λE r a b c h0=>?_⟩;obtain⟨S1,h1,h2⟩:=hT E r a b c h0;refine .inr ⟨cd,0,S1,h1,λM1 hm=>?_⟩;obtain⟨e1,e2,e3,e4⟩:=h2 M1 hm;exact fault_dies hK hn cd hc e1 e2 e3 e4 h0
theorem metp_str {K1:Cv} (hK1:Live n K1) (hn:n<=1000000) (cd id:Nat) (hc:cd<=20) (h0:id≠0) (hid:id<=2147483647) (hT:∀E r a b c,E.length<=800000->∃S1,PieceP (mkC K E r a b c) i l S1 cd id/\∀M1,S1 M1->∃a b c,M1=mkC K1 E r a b c):MetP n K i l:=by
 refine⟨strQ K1 cd id,strE K1 cd id,strQ_live hK1 cd id,strE_len K1 cd id,λE r a b c h3=>?_⟩;obtain⟨S1,h1,h2⟩:=hT E r a b c h3;refine .inr ⟨cd,id,S1,h1,λM1 hm=>?_⟩;obtain⟨a1,b1,c1,rfl⟩:=h2 M1 hm;intro w ow b9 L h;exact(fault_str hK1 hn cd id hc h0 hid E r a1 b1 c1 h3 w ow b9 L h).mono λe w' ⟨M',h,k⟩=>⟨M',h,k⟩
theorem metp_takes {K1:Cv} {new:List EvV} (hL:Live (n+1) K1) (hl:Tame new) (hT:∀E r a b c,E.length<=800000->PieceT (mkC K E r a b c) i l (λM'=>∃E' a' b' c',M'=mkC K1 E' r a' b' c'/\E'.map enE=E.map enE++new)):MetP n K i l:=by
 refine⟨.up (nf K1),new,hL.nf,hl,λE r a b c h0=>.inl ((hT E r a b c h0).mono λM' h=>?_)⟩;obtain⟨E',a',b',c',rfl,he⟩:=h;exact⟨⟨rfl,hL.dead⟩,he,λ_=>rfl⟩
theorem len_rd {w:World} {B n:Nat} {A:Option Addr} {l:List UInt8} (h:Rd w B A n l):l.length=n:=h.1
theorem opened_met (hK:Live n K) (hn:n<=1000000) (h2:K.side=2) {id:Nat} (h0:id % 2=1) (hid:id<=2147483647) (hk:knownB K id=false) (fin:Bool) (hs:List HdrV) (hzs:hszs hs<=16384):∃K1 new,Live (n+1) K1/\Tame new/\∀E r a b c,E.length<=800000->∀w ow b9 L A c9,Env w ow->CN w ow b9 (mkC K E r a b c) L->hs.length<=c9->hszs hs<=16384->Cm.RS hdrC 3 w w.heap.size A hs.length hs->(0<hs.length->∀ad,A=some ad->ow ad.block= .evd)->
 Calls Tryz.prog 196 #[.pointer (some ⟨b9,0,none⟩),.int .i64 (id:Nat),.slice A hs.length c9,.bool fin] w (CPostS w ow b9 (λM'=>∃E' a' b' c',M'=mkC K1 E' r a' b' c'/\E'.map enE=E.map enE++new) (.tuple #[])):=by
 have h9:=hK.out;have hb:=hK.len;have h7:∀s∈K.strs,s.id≠id:=λs hs e=>by
  have:=hK.known hs;rw[e,hk]at this;cases this
 by_cases hm:K.cs<=(K.strs.length:Int)
 · refine⟨{K with last:=id,out:=K.out++frameB 3 0 id (be 7 4)},[],hK.lasts h2 hid hk h0 (by rw[frameB_len,be_len];omega),tame_nil,λE r a b c h8 w ow b9 L A c9 _ hc _ _ _ _=>?_⟩
   exact(opened_many w ow b9 (mkC K E r a b c) L id _ fin hc ⟨by omega,hid⟩ hm (show K.out.length<=_ by omega)).mono λe w' hp=>hp.s ⟨E,a,b,c,rfl,(List.append_nil _).symm⟩
 · cases ho:openS rules4 hs req0 with
   |none=>
    refine⟨{K with last:=id,out:=K.out++frameB 3 0 id (be 1 4)},[],hK.lasts h2 hid hk h0 (by rw[frameB_len,be_len];omega),tame_nil,λE r a b c h8 w ow b9 L A c9 hE hc h4 hz h5 h1=>?_⟩;refine(opened_bad w ow b9 (mkC K E r a b c) L id A c9 hs fin hc ⟨by omega,hid⟩ (show(K.strs.length:Int)<K.cs by omega) hK.bye (show K.out.length<=_ by omega) h5 h1 λW' hf hr=>?_).mono λe w' hp=>hp.s ⟨E,a,b,c,rfl,(List.append_nil _).symm⟩;obtain⟨e1,e2,e3,h6⟩:=(hE.fr hf).env;exact headBad_of h6 (len_of hz) h4 (hr.more hf.size) (szs_of hz) ho
   |some rq=>
    have h3:0<hs.length:=by
     cases hs with
     |nil=>cases(show openS rules4 [] req0=none from by decide+kernel).symm.trans ho
     |cons x l=>simp
    refine⟨{K with last:=id,strs:=K.strs++[endS {id:=id,other:=1,inw:=K.window,outw:=K.others} fin]},[{kind:=1,stream:=id,fin:=fin,l:=hs}],hK.opened h2 hid hk h0 fin,tame_one (len_of hzs),λE r a b c h8 w ow b9 L A c9 hE hc h4 hz h5 h1=>?_⟩;refine(opened_ok w ow b9 (mkC K E r a b c) L id A c9 hs fin hc hid h7 (show(K.strs.length:Int)<K.cs by omega) hK.bye hK.win hK.oth (show K.strs.length<=_ by omega) hK.nd h4 h5 h3 (h1 h3) (show E.length<=_ by omega) λW' hf hr=>?_).mono λe w' hp=>hp.s ⟨_,a,b,c,rfl,List.map_append ..⟩;obtain⟨e1,e2,e3,h6⟩:=(hE.fr hf).env;exact headOk_of' h6 (len_of hz) h4 (hr.more hf.size) (szs_of hz) (by rw[ho];rfl)
theorem Live.trails (h:Live n K) {si:Sv} (hm:si∈K.strs):Live (n+1) {K with strs:=updS K.strs {si with other:=3}}:=by
 have h0:=h.str si hm;have h1:=h.turns (s':={si with other:=3}) (i:=K.inw) (x:=[]) hm rfl ⟨h0.own,h0.waits,h0.trails,.inr rfl,h0.inw,h0.low,h0.low0,h0.outw⟩ (by have:=h.inw;show 0<=K.inw/\K.inw+(heldS K.strs-si.held+si.held)=65535;omega) (by simp);rw[List.append_nil]at h1;exact{h1 with}
theorem met_piece (hK:Live n K) (hn:n<=1000000) (h2:K.side=2) {id:Nat} {fin:Bool} {l0:List UInt8} (hL:K.list=some (id,fin,l0)) (hl:l.length<=16384):MetP n K i l:=by
 obtain⟨hh,hid,ht⟩:=hK.list _ hL;have hh:id % 2=1:=hh;have hid:id<=2147483647:=hid;have ht:l0.length<=16384:=ht;have hw:K.greeted=true:=by
  cases hg:K.greeted with
  |true=>rfl
  |false=>rw[hK.greet hg]at hL;cases hL
 by_cases hH:16384<l0.length+l.length
 · refine metp_dies hK hn 11 (by decide) λE r a b c h6=>⟨λM'=>M'={mkC K E r a b c with list:=some (id,fin,l0++l)},λw ow b9 L sv A m c9 hc hE hr h4=>?_,λM1 hm=>by subst hm;exact⟨rfl,rfl,rfl,rfl⟩⟩
   have hm:=len_rd hr;exact piece_over w ow b9 (mkC K E r a b c) L id fin l0 l i sv A m c9 hc hL rfl hr (by omega)
 cases he:i.endHeads with
 |false=>
  refine metp_takes (K1:={K with list:=some (id,fin,l0++l)}) (new:=[]) (hK.lists hw h2 hh hid (by rw[List.length_append];omega)).more tame_nil λE r a b c h6 w ow b9 L sv A m c9 hc hE hr h4=>?_;have hm:=len_rd hr;exact(piece_more w ow b9 (mkC K E r a b c) L id fin l0 l i sv A m c9 hc hL he hr (by omega)).mono λe w' ⟨M',h,k⟩=>⟨M',⟨E,a,b,c,h,(List.append_nil _).symm⟩,k⟩
 |true=>
  cases h5:Hk.decP K.hp.dt (l0++l)with
  |none=>
   refine metp_dies hK hn 9 (by decide) λE r a b c h6=>⟨λM'=>∃t9,M'={mkC K E r a b c with list:=none,hp:=(mkC K E r a b c).hp.lost t9},λw ow b9 L sv A m c9 hc hE hr h4=>?_,λM1 ⟨t9,hm⟩=>by subst hm;exact⟨rfl,rfl,rfl,rfl⟩⟩;have hm:=len_rd hr;exact piece_bad w ow b9 (mkC K E r a b c) _ L id fin l0 l i sv A m c9 hc hE.d hK.dg hL he hr h4 (by omega) h5 λt9=>⟨t9,rfl⟩
  |some q=>
   obtain⟨hs,t'⟩:=q;have ho:Live n {K with list:=none,hp:=K.hp.turned t'}:=hK.unlists t';cases hj:strAt K (id:Int)with
   |some si=>
    obtain⟨hI,h7⟩:=hK.at hj;have h0:=hK.str si h7;have hb:∀cd:Nat,cd<=20->(∀E r a b c,E.length<=800000->∀w ow b9 L A c9,Env w ow->CN w ow b9 {mkC K E r a b c with list:=none,hp:=(mkC K E r a b c).hp.turned t'} L->hs.length<=c9->hszs hs<=16384->Cm.RS hdrC 3 w w.heap.size A hs.length hs->
     Calls Tryz.prog 195 #[.pointer (some ⟨b9,0,none⟩),.pointer (some ⟨(L.s si.id).sb,0,none⟩),.slice A hs.length c9,.bool fin] w λe w'=>e= .panicked (fltE cd si.id)/\Below w.heap.size w w')->MetP n K i l:=λcd hA hC=>by
     refine metp_str ho hn cd si.id hA (by omega) (by omega) λE r a b c h6=>⟨λM'=>M'={mkC K E r a b c with list:=none,hp:=(mkC K E r a b c).hp.turned t'},λw ow b9 L sv A m c9 hc hE hr h4=>?_,λM1 hm=>⟨a,b,c,hm⟩⟩;have hm:=len_rd hr;refine piece_there w ow b9 (mkC K E r a b c) _ L id fin l0 l i sv A m c9 hs t' hc hE.d hK.dg hL he hr h4 (by omega) h5 si hj hid (λe w' hq=>.inr ⟨_,hq.ret⟩) λW ow' L' A' c' hi hf hd hz h9 h8=>?_;exact(hC E r a b c h6 W ow' b9 L' A' c' (hE.fr hf) hi hd hz h9).mono λe w' hp=>⟨_,ow',L',rfl,hp.1,hi.below hp.2,hf.trans (Fr.below hp.2 ow')⟩
    by_cases h3:si.other=3
    · refine hb 5 (by decide) λE r a b c h6 w ow b9 L A c9 hE hc hd hz h9=>?_
      exact(lists_shut w ow b9 _ L si _ fin hc h7 h3).mono λe w' hp=>⟨hp.1,by rw[hp.2];exact Below.refl _ _⟩
    have h1:si.other=1:=h0.other.resolve_right h3;cases fin with
    |false=>
     refine hb 1 (by decide) λE r a b c h6 w ow b9 L A c9 hE hc hd hz h9=>?_;exact(lists_open w ow b9 _ L si _ hc h7 h1).mono λe w' hp=>⟨hp.1,by rw[hp.2];exact Below.refl _ _⟩
    |true=>
     cases hu:hs.all plainB with
     |false=>
      refine hb 1 (by decide) λE r a b c h6 w ow b9 L A c9 hE hc hd hz h9=>?_;exact lists_junk w ow b9 _ L si A hs.length c9 hs hc hE h7 h1 (by have:=len_of hz;omega) (hr_of h9) (szs_of hz) hu
     |true=>
      by_cases hzs:hszs hs<=16384
      case neg=>
       refine metp_takes (K1:=K) (new:=[]) hK.more tame_nil λE r a b c h6 w ow b9 L sv A m c9 hc hE hr h4=>?_;have hm:=len_rd hr;exact piece_there w ow b9 (mkC K E r a b c) _ L id true l0 l i sv A m c9 hs t' hc hE.d hK.dg hL he hr h4 (by omega) h5 si hj hid (λe w' hq=>.inl hq.ret) λW ow' L' A' c' hi hf hd hz h9 h8=>absurd hz hzs
      refine metp_takes (K1:={K with list:=none,hp:=K.hp.turned t',strs:=updS K.strs {si with other:=3}}) (new:=[{kind:=3,stream:=si.id,l:=hs}]) (ho.trails h7) (tame_one (len_of hzs)) λE r a b c h6 w ow b9 L sv A m c9 hc hE hr h4=>?_;have hm:=len_rd hr;refine piece_there w ow b9 (mkC K E r a b c) _ L id true l0 l i sv A m c9 hs t' hc hE.d hK.dg hL he hr h4 (by omega) h5 si hj hid (λe w' hq=>.inl hq.ret) λW ow' L' A' c' hi hf hd hz h9 h8=>?_;exact(lists_trail W ow' b9 _ L' si A' c' hs hi (hE.fr hf) h7 h1 (by rw[h0.own];decide) hK.nd (by have:=len_of hz;omega) hd h9 h8 (szs_of hz) hu (show E.length<=_ by omega)).mono λe w' hp=>(hp.trans hf).s ⟨_,a,b,c,rfl,List.map_append ..⟩
   |none=>
    cases hk:knownB K id with
    |true=>
     refine metp_takes (K1:={K with list:=none,hp:=K.hp.turned t'}) (new:=[]) ho.more tame_nil λE r a b c h6 w ow b9 L sv A m c9 hc hE hr h4=>?_;have hm:=len_rd hr;exact piece_past w ow b9 (mkC K E r a b c) _ L id fin l0 l i sv A m c9 hs t' hc hE.d hK.dg hL he hr h4 (by omega) h5 hk hj hid h2 ⟨E,a,b,c,rfl,(List.append_nil _).symm⟩
    |false=>
     by_cases hzs:hszs hs<=16384
     case neg=>
      refine metp_takes (K1:=K) (new:=[]) hK.more tame_nil λE r a b c h6 w ow b9 L sv A m c9 hc hE hr h4=>?_;have hm:=len_rd hr;exact piece_good w ow b9 (mkC K E r a b c) _ L id fin l0 l i sv A m c9 hs t' hc hE.d hK.dg hL he hr h4 (by omega) h5 h2 hk hj hid λW ow' L' A' c' hi hf hd hz h9 h8=>absurd hz hzs
     obtain⟨K1,new,hD,hF,hG⟩:=opened_met ho hn h2 hh hid hk fin hs hzs;refine metp_takes hD hF λE r a b c h6 w ow b9 L sv A m c9 hc hE hr h4=>?_;have hm:=len_rd hr;refine piece_good w ow b9 (mkC K E r a b c) _ L id fin l0 l i sv A m c9 hs t' hc hE.d hK.dg hL he hr h4 (by omega) h5 h2 hk hj hid λW ow' L' A' c' hi hf hd hz h9 h8=>?_;exact hG E r a b c h6 W ow' b9 L' A' c' (hE.fr hf) hi hd hz h9 h8
end
section
variable {n:Nat} {K:Cv} {f s:Nat} {p:List UInt8} {j:Inf}
theorem met_heads (hK:Live n K) (hn:n<=1000000) (hl:K.list=none) (hg:K.greeted=true) (ho:opn 1 f s p= .ok j) (hp:p.length<=16384) (hf:f<=255) (hs:s<=2147483647):Met n K 1 f s p:=by
 have h8:=(opn_typ ho).2.1;have hu:=opn_zero ho rfl;have hw:=opn_len ho;by_cases hi:K.side=1\/s % 2=0
 · refine met_dies hK hn 1 (by decide) λE r a b c _=>⟨_,gen_give (M:=mkC K E r a b c) hl hg 1 0 149 (λ_=>#[]) (λg=>#[.pointer (some ⟨g,0,none⟩)]) ho (by decide) hp (by decide) hf hs (λ_ _=>rfl) enter_works1 λW ow b9 g L sv dv _ hc hb _=>?_,λM1 hm=>by subst hm;exact⟨rfl,rfl,rfl,rfl⟩⟩
   by_cases h1:K.side=1
   · exact heads_unknown W ow b9 g (mkC K E r a b c) L j sv dv _ hc hb h1 (by rw[h8];exact decide_eq_false λh=>by have:=(hK.cl h1).2;have h9:s<=K.last:=h.2;omega)
   · exact heads_even W ow b9 g (mkC K E r a b c) L j sv dv _ hc hb (hK.side.resolve_left h1) (by rw[h8];exact hi.resolve_left h1)
 have h2:K.side=2:=by have:=hK.side;omega
 have h4:s % 2=1:=by omega
 obtain⟨Q,new,hQ,hk,hP⟩:=met_piece (i:=j) (l:=j.data) (hK.lists (fin:=j.endd) (l:=[]) hg h2 h4 hs (Nat.zero_le _)) hn h2 rfl (by omega);refine⟨Q,new,hQ,hk,λE r a b c ht=>?_⟩;rcases hP E r a b c ht with hT|⟨c0,s0,S1,hT,hF⟩
 · refine .inl (gen_take (M:=mkC K E r a b c) hl (.inl hg) _ 149 (λ_=>#[]) (λg=>#[.pointer (some ⟨g,0,none⟩)]) ho (by decide) hp (by decide) hf hs (λ_ _=>rfl) enter_works1 λw W ow b9 g L sv dv h5 hF hE hc hb hh _ hd=>?_)
   rw[greet_same (M:=mkC K E r a b c) hg]at hc;obtain⟨A6,c6,rfl,h6,_,h7⟩:=hd.form;have h0:0<j.data.length->∀ad,A6=some ad->ow ad.block= .no:=λhj ad ha=>h5 _ (hd.lt (g:=ad.block) (by rw[ha];rfl)).2;refine works1_q W ow b9 g (mkC K E r a b c) _ L j sv _ _ hc hb hh h2 (by rw[h8];exact h4) (λW2 ow2 L2 he h3=>?_) λe w' hq=>.inl hq.ret;rw[h8]at he;exact(hT W2 ow2 b9 L2 sv A6 j.data.length c6 he (hE.fr h3) ((h3.rd h7 (Nat.le_refl _) h0).more h3.size) h6).mono λe w' hp=>hp.trans (hF.trans h3)
 · refine .inr ⟨c0,s0,S1,gen_giveS (M:=mkC K E r a b c) hl (.inl hg) _ c0 s0 149 (λ_=>#[]) (λg=>#[.pointer (some ⟨g,0,none⟩)]) ho (by decide) hp (by decide) hf hs (λ_ _=>rfl) enter_works1 (λw W ow b9 g L sv dv h5 hF hE hc hb hh _ hd=>?_),hF⟩
   rw[greet_same (M:=mkC K E r a b c) hg]at hc;obtain⟨A6,c6,rfl,h6,_,h7⟩:=hd.form;have h0:0<j.data.length->∀ad,A6=some ad->ow ad.block= .no:=λhj ad ha=>h5 _ (hd.lt (g:=ad.block) (by rw[ha];rfl)).2;refine works1_q W ow b9 g (mkC K E r a b c) _ L j sv _ _ hc hb hh h2 (by rw[h8];exact h4) (λW2 ow2 L2 he h3=>?_) λe w' hq=>.inr ⟨_,hq.ret⟩;rw[h8]at he;exact(hT W2 ow2 b9 L2 sv A6 j.data.length c6 he (hE.fr h3) ((h3.rd h7 (Nat.le_refl _) h0).more h3.size) h6).mono λe w' hp=>hp.trans (hF.trans h3)
theorem met_cont (hK:Live n K) (hn:n<=1000000) (hg:K.greeted=true) {fin:Bool} {l0:List UInt8} (hl:K.list=some (s,fin,l0)) (hp:p.length<=16384) (hf:f<=255):Met n K 9 f s p:=by
 obtain⟨h9,hid,hs⟩:=hK.list _ hl;have h9:s % 2=1:=h9;have hid:s<=2147483647:=hid;have h2:K.side=2:=hK.side.resolve_left λh1=>by rw[hK.cll h1]at hl;cases hl
 have h8:hasF 9 f 8=false:=by rw[hasF_is];simp[rowOf]
 have ht:hasF 9 f 32=false:=by rw[hasF_is];simp[rowOf]
 have ho:opn 9 f s p= .ok {info0 9 f s with data:=p}:=by
  unfold opn;rw[if_neg (by simp[rowOf];omega),h8]
  rfl
 obtain⟨Q,new,hQ,hi,hP⟩:=met_piece (i:={info0 9 f s with data:=p}) (l:=p) hK hn h2 hl hp;refine⟨Q,new,hQ,hi,λE r a b c hj=>?_⟩;rcases hP E r a b c hj with hT|⟨c0,s0,S1,hT,hF⟩
 · refine .inl λw ow b9 L A c9 hE h hr hb hc=>?_
   refine takes_more w ow b9 (mkC K E r a b c) L fin l0 _ 9 f s 151 #[] (λg=>#[.pointer (some ⟨g,0,none⟩)]) A p.length c9 p _ h hr hb hc hp (by decide) hf hid h8 ⟨by decide,by decide,λh=>by cases h⟩ hl rfl hg ho (λg=>rfl) enter_works2 (λe w' hq=>.inl hq.ret) ?_;intro W g sv dv h6 h7 he hk hm hd;rw[greet_same (M:=mkC K E r a b c) hg]at h6;obtain⟨A6,c6,rfl,h4,_,h5⟩:=hd.form;refine works2_any W ow b9 g (mkC K E r a b c) L _ _ sv _ _ h6 he (λe w' hq=>.inl hq.ret) λW2 hh h3=>?_;have h0:=tag_no h hd;exact(hT W2 ow b9 L sv A6 p.length c6 hh ((hE.fr h7).fr h3) ((h3.rd h5 (Nat.le_refl _) h0).more h3.size) h4).mono λe w' hp=>hp.trans (h7.trans h3)
 · refine .inr ⟨c0,s0,S1,λw ow b9 L A c9 hE h hr hb hc=>?_,hF⟩
   refine takes_more w ow b9 (mkC K E r a b c) L fin l0 _ 9 f s 151 #[] (λg=>#[.pointer (some ⟨g,0,none⟩)]) A p.length c9 p _ h hr hb hc hp (by decide) hf hid h8 ⟨by decide,by decide,λh=>by cases h⟩ hl rfl hg ho (λg=>rfl) enter_works2 (λe w' hq=>.inr ⟨_,hq.ret⟩) ?_;intro W g sv dv h6 h7 he hk hm hd;rw[greet_same (M:=mkC K E r a b c) hg]at h6;obtain⟨A6,c6,rfl,h4,_,h5⟩:=hd.form;refine works2_any W ow b9 g (mkC K E r a b c) L _ _ sv _ _ h6 he (λe w' hq=>.inr ⟨_,hq.ret⟩) λW2 hh h3=>?_;have h0:=tag_no h hd;exact(hT W2 ow b9 L sv A6 p.length c6 hh ((hE.fr h7).fr h3) ((h3.rd h5 (Nat.le_refl _) h0).more h3.size) h4).mono λe w' hp=>hp.trans (h7.trans h3)
theorem met_any (t:Nat) (hK:Live n K) (hn:n<=1000000) (ht:t<=255) (hp:p.length<=16384) (hf:f<=255) (hs:s<=2147483647):Met n K t f s p:=by
 have h0:∀E r a b c,(TakesP (mkC K E r a b c) t f s p (λM'=>M'=mkC K E r a b c) 1 0)->∃S1,TakesP (mkC K E r a b c) t f s p S1 1 0/\∀M1,S1 M1->M1.out=K.out/\M1.last=K.last/\M1.side=K.side/\M1.evs=E:=λE r a b c h=>⟨_,h,λM1 hm=>by subst hm;exact⟨rfl,rfl,rfl,rfl⟩⟩;cases hg:K.greeted with
 |false=>
  by_cases h1:t≠4\/f&&& 1≠0
  · exact met_dies hK hn 1 (by decide) λE r a b c _=>h0 E r a b c (takes_ungreeted (mkC K E r a b c) t f s p hg hf h1)
  · obtain rfl:t=4:=by omega
    have h2:f&&& 1=0:=by omega
    cases hl:K.list with
    |some q=>exact absurd hl (by have:=hK.greet hg;rw[this];simp)
    |none=>
     cases ho:opn 4 f s p with
     |error x=>
      exact met_bad hK hn hl (.inr ⟨rfl,h2⟩) x ho (by decide) hp ht hf hs
     |ok j=>
      refine met_set hK hn hl (.inr h2) ho ?_ hp hf hs;rw[(opn_typ ho).2.2.1,hasF_is];show(true&&(1&&& 1&&& f != 0))=false;rw[Nat.and_comm (1&&& 1) f,show(1&&& 1:Nat)=1 from rfl,h2]
      rfl
 |true=>
  cases hl:K.list with
  |some q=>
   obtain⟨id,fin,l0⟩:=q;by_cases h1:t≠9\/s≠id
   · exact met_dies hK hn 1 (by decide) λE r a b c _=>h0 E r a b c (takes_wrong (mkC K E r a b c) t f s id fin l0 p hg hl hf h1)
   · obtain⟨rfl,rfl⟩:t=9/\s=id:=by omega
     exact met_cont hK hn hg hl hp hf
  |none=>
   by_cases h9:t=9
   · subst h9
     exact met_dies hK hn 1 (by decide) λE r a b c _=>h0 E r a b c (takes_cont (mkC K E r a b c) f s p hg hl hf)
   cases ho:opn t f s p with
   |error x=>exact met_bad hK hn hl (.inl hg) x ho h9 hp ht hf hs
   |ok j=>
    rcases ten t with rfl|rfl|rfl|rfl|rfl|rfl|rfl|rfl|rfl|rfl|h3
    · exact met_data hK hn hl hg ho hp hf hs
    · exact met_heads hK hn hl hg ho hp hf hs
    · exact met_none hK hl hg ho (λ_ _=>rfl) h9 hp ht hf hs
    · exact met_reset hK hn hl hg ho hp hf hs
    · cases ha:j.ack
      · exact met_set hK hn hl (.inl hg) ho ha hp hf hs
      · exact met_ack hK hn hl hg ho ha hp hf hs
    · exact met_push hK hn hl hg ho hp hf hs
    · exact met_ping hK hn hl hg ho hf hs
    · exact met_away hK hn hl hg ho hp hf hs
    · exact met_win hK hn hl hg ho hp hf hs
    · exact absurd rfl h9
    · refine met_none hK hl hg ho (λ_ _=>?_) h9 hp ht hf hs
      unfold wkF;rw[if_neg (by omega),if_neg (by omega),if_neg (by omega),if_neg (by omega),if_neg (by omega),if_neg (by omega),if_neg (by omega),if_neg (by omega),if_neg (by omega)]
end
end Go.Proofs.YtkpppjhbmnfmkaaGreatDoor
end

section
namespace Go.Proofs.YtkpppjhbmnfmkaaGreatDoor
open Go.RowKit Go.Own Go.Own.Im Go.Own.Cx Go.Own.Fr Go.Own.Hd
def Whole (K:Cv) (x:List UInt8):Prop:=(K.preface<24/\x.length=1)\/(K.preface=24/\9<=x.length/\((16384<ofB 0 (x.take 3)/\x.length=9)\/(ofB 0 (x.take 3)<=16384/\x.length=9+ofB 0 (x.take 3))))
def Short (K:Cv) (y:List UInt8):Prop:=(K.preface<24/\y=[])\/(K.preface=24/\(y.length<9\/(ofB 0 (y.take 3)<=16384/\y.length<9+ofB 0 (y.take 3))))
theorem take3 {x:List UInt8} (h:9<=x.length) (r:List UInt8):(x++r).take 3=x.take 3:=List.take_append_of_le_length (by omega)
theorem cut_whole (K:Cv) (hp:K.preface<=24) (y:List UInt8):Short K y\/∃x r,y=x++r/\Whole K x:=by
 by_cases h0:K.preface<24
 · cases y with
   |nil=>exact .inl (.inl ⟨h0,rfl⟩)
   |cons a r=>exact .inr ⟨[a],r,rfl,.inl ⟨h0,rfl⟩⟩
 · have h0:K.preface=24:=by omega
   by_cases h9:y.length<9
   · exact .inl (.inr ⟨h0,.inl h9⟩)
   · by_cases hl:16384<ofB 0 (y.take 3)
     · refine .inr ⟨y.take 9,y.drop 9,(List.take_append_drop 9 y).symm,.inr ⟨h0,by rw[List.length_take];omega,.inl ⟨?_,by rw[List.length_take];omega⟩⟩⟩
       rw[List.take_take];exact hl
     · by_cases hs:y.length<9+ofB 0 (y.take 3)
       · exact .inl (.inr ⟨h0,.inr ⟨by omega,hs⟩⟩)
       · have e:(y.take (9+ofB 0 (y.take 3))).take 3=y.take 3:=by rw[List.take_take,Nat.min_eq_left (by omega)]
         have el:(y.take (9+ofB 0 (y.take 3))).length=9+ofB 0 (y.take 3):=by rw[List.length_take];omega
         exact .inr ⟨y.take (9+ofB 0 (y.take 3)),y.drop (9+ofB 0 (y.take 3)),(List.take_append_drop _ y).symm,.inr ⟨h0,by omega,.inr ⟨by rw[e];omega,by rw[e,el]⟩⟩⟩
theorem whole_one {K:Cv} {x x' r r':List UInt8} (h:Whole K x) (h':Whole K x') (e:x++r=x'++r'):x=x'/\r=r':=by
 have hl:x.length=x'.length:=by
  rcases h with⟨h1,h2⟩|⟨h1,h2,h3⟩<;>rcases h' with⟨h4,h0⟩|⟨h4,h0,h5⟩
  · omega
  · omega
  · omega
  · have e3:x.take 3=x'.take 3:=by rw[<-take3 h2 r,e,take3 h0 r']
    rw[e3]at h3;omega
 exact List.append_inj e hl
theorem whole_short {K:Cv} {x r:List UInt8} (h:Whole K x):¬Short K (x++r):=by
 intro hs;rcases h with⟨h1,h2⟩|⟨h1,h2,h3⟩<;>rcases hs with⟨h4,h0⟩|⟨h4,h0⟩
 · have:=congrArg List.length h0
   simp at this;rw[this.1]at h2;cases h2
 · omega
 · omega
 · rw[take3 h2,List.length_append]at h0
   omega
theorem whole_pos {K:Cv} {x:List UInt8} (h:Whole K x):1<=x.length:=by
 rcases h with⟨_,h2⟩|⟨_,h2,_⟩<;>omega
def StepS (Q:Ks) (new X:List EvV) (r:List UInt8):Cv->Prop:=λM'=>Q.is M'/\M'.evs.map enE=X++new/\(M'.dead=false->M'.fed=r)
def Act (K:Cv) (x:List UInt8) (Q:Ks) (new:List EvV):Prop:=∀E r a b c,E.length<=800000->StepT (mkC K E (x++r) a b c) true (StepS Q new (E.map enE) r)
theorem FaultT.mono {M:Cv} {c0 s0:Nat} {S S2:Cv->Prop} (h:FaultT M c0 s0 S) (hs:∀M',S M'->S2 M'):FaultT M c0 s0 S2:=λw ow b L hc=>(h w ow b L hc).mono λe w' ⟨M',h,k⟩=>⟨M',hs _ h,k⟩
theorem act_ex {n:Nat} {K:Cv} (hK:Live n K) (hn:n<=1000000) {x:List UInt8} (hx:Whole K x):∃q:Ks×List EvV,LiveQ (n+1) q.1/\Tame q.2/\Act K x q.1 q.2:=by
 have h2:∀(cd:Nat) (E:List EvV) (x r:List UInt8) a b c,cd<=20->E.length<=800000->FaultT (mkC K E (x++r) a b c) cd 0 (StepS (deadQ K cd) (deadE cd) (E.map enE) r):=λcd E x r a b c hc h0=>
  (fault_dies (M:=mkC K E (x++r) a b c) (M1:=mkC K E (x++r) a b c) hK hn cd hc rfl rfl rfl rfl h0).mono λM' h=>⟨h.1,h.2.1,λhd=>by have h1:=h.1.1;rw[hd]at h1;cases h1⟩
 rcases hx with⟨h3,hx⟩|⟨h3,h9,⟨hl,hx⟩|⟨hl,hx⟩⟩
 · obtain⟨z,rfl⟩:∃z,x=[z]:=List.length_eq_one_iff.1 hx
   obtain⟨y,hy⟩:∃y,prefB[K.preface]?=some y:=⟨prefB[K.preface]'(by simpa [prefB]using h3),List.getElem?_eq_getElem _⟩;by_cases h4:z=y
   · subst h4
     refine⟨(.up (nf {K with preface:=K.preface+1}),[]),Live.nf {hK.more with pref:=(by omega:K.preface+1<=24)},tame_nil,λE r a b c h0=>?_⟩;exact(step_pref (mkC K E ([z]++r) a b c) z r hy rfl).mono λM' h=>by subst h;exact⟨⟨rfl,hK.dead⟩,(List.append_nil _).symm,λ_=>rfl⟩
   · refine⟨(deadQ K 1,deadE 1),trivial,tame_one (Nat.zero_le _),λE r a b c h0=>?_⟩
     exact step_prefbad (mkC K E ([z]++r) a b c) _ z y r hy rfl h4 (h2 1 E [z] r a b c (by decide) h0)
 · refine⟨(deadQ K 6,deadE 6),trivial,tame_one (Nat.zero_le _),λE r a b c h0=>?_⟩
   exact step_long (mkC K E (x++r) a b c) _ h3 (by show 9<=(x++r).length;rw[List.length_append];omega) (by show 16384<ofB 0 ((x++r).take 3);rw[take3 h9];exact hl) (h2 6 E x r a b c (by decide) h0)
 · obtain⟨m,hm⟩:∃m,ofB 0 (x.take 3)=m:=⟨_,rfl⟩
   rw[hm]at hl hx;have hp:(x.drop 9).length=m:=by rw[List.length_drop];omega
   obtain⟨Q,new,hQ,h6,hD⟩:=met_any (p:=x.drop 9) (f:=(x.getD 4 0).toNat) (s:=low (ofB 0 ((x.drop 5).take 4))) (x.getD 3 0).toNat hK hn (by have:=(x.getD 3 0).toNat_lt;omega) (by omega) (by have:=(x.getD 4 0).toNat_lt;omega) (low_lt _);refine⟨(Q,new),hQ,h6,λE r a b c h0=>?_⟩;have hg:∀i,i<9->(x++r).getD i 0=x.getD i 0:=λi hi=>by
    simp only[List.getD_eq_getElem?_getD];rw[List.getElem?_append_left (by omega)]
   have h5:FParts (x++r) (x.getD 3 0).toNat (x.getD 4 0).toNat (low (ofB 0 ((x.drop 5).take 4))) (x.drop 9) r:=by
    refine⟨by rw[List.length_append];omega,by rw[take3 h9,hm,hp],by rw[hg 3 (by decide)],by rw[hg 4 (by decide)],?_,?_,?_⟩
    · rw[List.drop_append_of_le_length (by omega),List.take_append_of_le_length (by rw[List.length_drop];omega)]
    · rw[List.drop_append_of_le_length (by omega),List.take_left' rfl]
    · rw[hp]
      exact List.drop_left' hx
   have hb:∀M',BehS Q new (mkC K E r a b c) M'->StepS Q new (E.map enE) r M':=λM' h=>h;rcases hD E r a b c h0 with hT|⟨c0,s0,S1,hT,hF⟩
   · exact step_takesF (mkC K E (x++r) a b c) _ _ _ _ _ r h3 h5 (by have:=(x.getD 3 0).toNat_lt;omega) (by have:=(x.getD 4 0).toNat_lt;omega) (low_lt _) (by omega) hT
   · exact step_panicsF (mkC K E (x++r) a b c) S1 _ _ _ _ c0 s0 _ r h3 h5 (by have:=(x.getD 3 0).toNat_lt;omega) (by have:=(x.getD 4 0).toNat_lt;omega) (low_lt _) (by omega) hT hF
open Classical in
noncomputable def nxt (n:Nat) (K:Cv) (x:List UInt8):Ks×List EvV:=if h:∃q:Ks×List EvV,LiveQ (n+1) q.1/\Tame q.2/\Act K x q.1 q.2 then h.choose else(.up K,[])
theorem nxt_is {n:Nat} {K:Cv} (hK:Live n K) (hn:n<=1000000) {x:List UInt8} (hx:Whole K x):LiveQ (n+1) (nxt n K x).1/\Tame (nxt n K x).2/\Act K x (nxt n K x).1 (nxt n K x).2:=by
 unfold nxt;rw[dif_pos (act_ex hK hn hx)];exact(act_ex hK hn hx).choose_spec
inductive Goes:Nat->Ks->List UInt8->Nat->Ks->List EvV->List UInt8->Prop
 |down {n:Nat} {o:List UInt8} {c:Nat} {y:List UInt8}:Goes n (.down o c) y n (.down o c) [] []
 |short {n:Nat} {K:Cv} {y:List UInt8}:Short K y->Goes n (.up K) y n (.up K) [] y
 |step {n:Nat} {K:Cv} {x r:List UInt8} {n':Nat} {Q':Ks} {new':List EvV} {y':List UInt8}:Whole K x->Goes (n+1) (nxt n K x).1 r n' Q' new' y'->Goes n (.up K) (x++r) n' Q' ((nxt n K x).2++new') y'
theorem goes_live {n:Nat} {Q:Ks} {y:List UInt8} {n':Nat} {Q':Ks} {new y':_} (h:Goes n Q y n' Q' new y'):LiveQ n Q->n+y.length<=1000000->LiveQ n' Q'/\n'+y'.length<=n+y.length/\new.length+n<=n'/\∀e∈new,e.l.length<=10000:=by
 induction h with
 |down=>exactλ_ _=>⟨trivial,by simp,by simp,λe he=>by cases he⟩
 |short _=>exactλh _=>⟨h,Nat.le_refl _,by simp,λe he=>by cases he⟩
 |step hx _ ih=>
  intro hK hn;have hp:=whole_pos hx;rw[List.length_append]at hn ⊢;obtain⟨h1,h2,_⟩:=nxt_is hK (by omega) hx;obtain⟨h3,h4,h5,h6⟩:=ih h1 (by omega);refine⟨h3,by omega,by rw[List.length_append];have:=h2.1;omega,λe he=>?_⟩;rcases List.mem_append.1 he with he|he
  · exact h2.2 e he
  · exact h6 e he
theorem goes_ex:∀(m n:Nat) (Q:Ks) (y:List UInt8),y.length<=m->LiveQ n Q->n+y.length<=1000000->∃n' Q' new y',Goes n Q y n' Q' new y':=by
 intro m
 induction m with
 |zero=>
  intro n Q y hm hQ hn;cases Q with
  |down o c=>exact⟨_,_,_,_,.down⟩
  |up K=>
   rcases cut_whole K hQ.pref y with h|⟨x,r,rfl,hx⟩
   · exact⟨_,_,_,_,.short h⟩
   · have:=whole_pos hx
     rw[List.length_append]at hm;omega
 |succ m ih=>
  intro n Q y hm hQ hn;cases Q with
  |down o c=>exact⟨_,_,_,_,.down⟩
  |up K=>
   rcases cut_whole K hQ.pref y with h|⟨x,r,rfl,hx⟩
   · exact⟨_,_,_,_,.short h⟩
   · have hp:=whole_pos hx
     rw[List.length_append]at hm hn;obtain⟨h1,_,_⟩:=nxt_is hQ (by omega) hx;obtain⟨n',Q',new',y',h⟩:=ih (n+1) (nxt n K x).1 r (by omega) h1 (by omega);exact⟨_,_,_,_,.step hx h⟩
theorem goes_one {n:Nat} {Q:Ks} {y:List UInt8} {n1:Nat} {Q1:Ks} {e1:List EvV} {y1:List UInt8} (h:Goes n Q y n1 Q1 e1 y1):∀{n2:Nat} {Q2:Ks} {e2:List EvV} {y2:List UInt8},Goes n Q y n2 Q2 e2 y2->n1=n2/\Q1=Q2/\e1=e2/\y1=y2:=by
 induction h with
 |down=>
  intro n2 Q2 e2 y2 h;cases h;exact⟨rfl,rfl,rfl,rfl⟩
 | @short n K y hs=>
   intro n2 Q2 e2 y2 h;generalize hy:y=z at h;cases h with
   |short _=>subst hy;exact⟨rfl,rfl,rfl,rfl⟩
   |step hx _=>subst hy;exact absurd hs (whole_short hx)
 | @step n K x r n' Q' new' y' hx _ ih=>
   intro n2 Q2 e2 y2 h;generalize hy:x++r=z at h;cases h with
   |short hs=>subst hy;exact absurd hs (whole_short hx)
   |step h0 h2=>
    obtain⟨rfl,rfl⟩:=whole_one hx h0 hy;obtain⟨rfl,rfl,rfl,rfl⟩:=ih h2;exact⟨rfl,rfl,rfl,rfl⟩
theorem goes_app {n:Nat} {Q:Ks} {y:List UInt8} {n1:Nat} {Q1:Ks} {e1:List EvV} {y1:List UInt8} (h:Goes n Q y n1 Q1 e1 y1):∀{z:List UInt8} {n2:Nat} {Q2:Ks} {e2:List EvV} {y2:List UInt8},Goes n1 Q1 (y1++z) n2 Q2 e2 y2->Goes n Q (y++z) n2 Q2 (e1++e2) y2:=by
 induction h with
 |down=>
  intro z n2 Q2 e2 y2 h;generalize hq:([]++z:List UInt8)=z' at h;cases h;exact .down
 |short _=>exactλh=>h
 |step hx _ ih=>
  intro z n2 Q2 e2 y2 h;rw[List.append_assoc,List.append_assoc];exact .step hx (ih h)
theorem goes_runs {n:Nat} {Q:Ks} {y:List UInt8} {n':Nat} {Q':Ks} {new y':_} (h:Goes n Q y n' Q' new y'):LiveQ n Q->n+y.length<=1000000->∃k,∀(M:Cv) (X:List EvV),Q.is M->(M.dead=false->M.fed=y)->M.evs.map enE=X->X.length+y.length<=800000->Runs k M (StepS Q' new X y'):=by
 induction h with
 |down=>
  intro _ _;refine⟨0,λM X hM _ hX _=>.dead hM.1 ⟨hM,by rw[hX,List.append_nil],λhd=>by have:=hM.1;rw[hd]at this;cases this⟩⟩
 | @short n K y hs=>
   intro hK hn;refine⟨0,λM X hM hf hX _=>?_⟩;obtain⟨hM,hd⟩:=hM;have h0:=hf hd;have h6:M.preface=K.preface:=by rw[<-hM];rfl
   refine .stop hd ?_;have hS:∀M',M'=M->StepS (.up K) [] X y M':=λM' e=>by subst e;exact⟨⟨hM,hd⟩,by rw[hX,List.append_nil],hf⟩
   rcases hs with⟨h1,h2⟩|⟨h1,h2⟩
   · exact(step_prefnone M (by omega) (by rw[h0,h2])).mono hS
   · exact(step_short M (by omega) (by rw[h0];exact h2)).mono hS
 | @step n K x r n' Q' new' y' hx _ ih=>
   intro hK hn;have hp:=whole_pos hx;rw[List.length_append]at hn;obtain⟨h1,h2,h3⟩:=nxt_is hK (by omega) hx;obtain⟨k,hk⟩:=ih h1 (by omega);refine⟨k+1,λM X hM hf hX hl=>?_⟩;obtain⟨hM,hd⟩:=hM;rw[List.length_append]at hl;have h0:=hf hd;obtain⟨a,b,c,h5⟩:=nf_open hM;have h4:=h3 M.evs r a b c (by rw[<-hX,List.length_map]at hl;omega);rw[<-h0,<-h5]at h4;refine .more hd h4 λM1 h1=>?_;obtain⟨q1,q2,q3⟩:=h1;rw[hX]at q2;have h9:=hk M1 (X++(nxt n K x).2) q1 q3 q2 (by rw[List.length_append];have:=h2.1;omega);exact h9.mono λM' ⟨p1,p2,p3⟩=>⟨p1,by rw[p2,List.append_assoc],p3⟩
theorem feed_goes (w:World) (ow:Nat->Tg) (b:Nat) (M:Cv) (L:Lay) (A:Option Addr) (m c:Nat) (l:List UInt8) {n:Nat} {Q:Ks} {y:List UInt8} {n':Nat} {Q':Ks} {new y':_} (hG:Goes n Q (y++l) n' Q' new y') (hQ:LiveQ n Q) (hn:n+(y++l).length<=800000) (hM:Q.is M) (hf:M.dead=false->M.fed=y) (hE:Env w ow) (h:CN w ow b M L) (hr:Rd w w.heap.size A m l) (hno:0<m->∀ad,A=some ad->ow ad.block= .no):
 Calls Tryz.prog 10 #[.pointer (some ⟨b,0,none⟩),.slice A m c] w (FeedPost w ow b (λM'=>Q'.is M'/\M'.evs.map enE=new/\(M'.dead=false->M'.fed=y'))):=by
 have h4:l.length=m:=hr.1;have h3:∀(S S2:Cv->Prop) e w',FeedPost w ow b S e w'->(∀M',S M'->S2 M')->FeedPost w ow b S2 e w':=λS S2 e w' ⟨M',A',c',ow',L',hS,h1⟩ hs=>⟨M',A',c',ow',L',hs M' hS,h1⟩;cases hd:M.dead with
 |true=>
  refine(feed_dead w ow b M L _ h hd).mono λe w' hp=>h3 _ _ e w' hp λM' e=>?_;subst e;cases Q with
  |up K=>have:=hM.2;rw[hd]at this;cases this
  |down o cd=>
   generalize hz:y++l=z at hG;cases hG;exact⟨hM,rfl,λh2=>by have h2:M.dead=false:=h2;rw[hd]at h2;cases h2⟩
 |false=>
  have h0:=hf hd;obtain⟨k,hk⟩:=goes_runs hG hQ (by omega);rw[List.length_append]at hn;refine(feed_any w ow b M L _ k A m c l hE h hr hno hd (by rw[h0];omega) (hk {M with evs:=[],fed:=M.fed++l} [] ?_ (λ_=>by show M.fed++l=_;rw[h0]) rfl (by rw[List.length_append];simp;omega))).mono λe w' hp=>h3 _ _ e w' hp λM' h9=>h9;cases Q with
  |up K=>exact⟨hM.1,hd⟩
  |down o cd=>have:=hM.1;rw[hd]at this;cases this
end Go.Proofs.YtkpppjhbmnfmkaaGreatDoor
end
