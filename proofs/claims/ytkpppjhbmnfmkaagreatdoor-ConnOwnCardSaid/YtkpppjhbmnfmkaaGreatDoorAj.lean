import Derived.Test.YtkpppjhbmnfmkaaGreatDoorKu
import Derived.Test.YtkpppjhbmnfmkaaGreatDoorDg
import Derived.Test.YtkpppjhbmnfmkaaGreatDoorJbc
set_option linter.unusedSimpArgs false
set_option linter.unusedVariables false
namespace Go.Proofs.YtkpppjhbmnfmkaaGreatDoor
open Go.RowKit Go.Own Go.Own.Im Go.Own.Cx Go.Own.Fr Go.Own.Hd
attribute [local go_sem] Oper.semAt_some
theorem takes_headsA (M:Cv) (S:Cv->Prop) (id:Nat) (fin:Bool) (l:List UInt8) (hs:List HdrV) (t':Hk.TM) (h2:l.length<=16384) (h6:Hk.decP M.hp.dt l=some (hs,t')) (hg:M.greeted=true) (hn:M.hp.dgone=false) (hl:M.list=none) (h0:M.side=2) (h7:id % 2=1) (hk:knownB M id=false) (h8:strAt M (id:Int)=none) (hid:id<=2147483647)
 (hop:∀W ow b L A c,Env W ow->CN W ow b {M with list:=none,hp:=M.hp.turned t'} L->hs.length<=c->hszs hs<=16384->Cm.RS hdrC 3 W W.heap.size A hs.length hs->(0<hs.length->∀ad,A=some ad->ow ad.block= .evd)->Calls Tryz.prog 196 #[.pointer (some ⟨b,0,none⟩),.int .i64 (id:Nat),.slice A hs.length c,.bool fin] W (CPostS W ow b S (.tuple #[]))):
 TakesT M 1 ((if fin then 1 else 0)|||(if true then 4 else 0)) id l S:=by
 intro w ow b L A c hE h hr ho hc;have h9:id≠0:=by omega
 refine takes_any w ow b M L _ 1 _ id 149 #[] (λg=>#[.pointer (some ⟨g,0,none⟩)]) A l.length c l {typ:=1,stream:=id,endd:=fin,endHeads:=true,data:=l} h hr ho hc h2 (by decide) (by cases fin<;>decide) hid (by cases fin<;>rfl) (by cases fin<;>decide) hl (by decide) (.inl hg) (opn_heads id h9 fin true l) (λg=>rfl) enter_works1 (λe w' hq=>.inl hq.ret) ?_;intro W g sv dv ht hj hu hw hH hd;obtain⟨A6,c6,rfl,hb,_,he⟩:=hd.form;refine(works1_any W ow b g {M with greeted:=true} S L {typ:=1,stream:=id,endd:=fin,endHeads:=true,data:=l} sv _ _ ht hu (h.new g hw) h0 h7 ?_).mono λe w' hp=>hp.trans hj;intro W2 ow2 L2 hA h5;have hm:Env W2 ow2:=(hE.fr hj).fr h5;have h3:=tag_no h hd;have hf:Rd W2 W2.heap.size A6 l.length l:=(h5.rd he (Nat.le_refl _) h3).more h5.size;refine piece_good W2 ow2 b {M with greeted:=true,list:=some (id,fin,[])} S L2 id fin [] l {typ:=1,stream:=id,endd:=fin,endHeads:=true,data:=l} sv A6 l.length c6 hs t' hA hm.d hn rfl rfl hf hb (by simpa using h2) (by simpa using h6) h0 hk h8 hid ?_;intro W3 ow3 L3 A3 c3 hC hD hF hG hh h4;have hi:CN W3 ow3 b {M with list:=none,hp:=M.hp.turned t'} L3:=by
  have e:({M with greeted:=true}:Cv)=M:=by
   cases M;simp only at hg;subst hg
   rfl
  have h1:CN W3 ow3 b {({M with greeted:=true}:Cv)with list:=none,hp:=M.hp.turned t'} L3:=hC;rw[e]at h1;exact h1
 exact hop W3 ow3 b L3 A3 c3 (hm.fr hD) hi hF hG hh h4
theorem takes_openA (M:Cv) (id:Nat) (fin:Bool) (l:List UInt8) (hs:List HdrV) (t':Hk.TM) (hlen:l.length<=16384) (hdec:Hk.decP M.hp.dt l=some (hs,t')) (hg:M.greeted=true) (hdg:M.hp.dgone=false) (hl:M.list=none) (hside:M.side=2) (hodd:id % 2=1) (hk:knownB M id=false) (hnew:strAt M (id:Int)=none) (hid:id<=2147483647)
 (hns:∀s∈M.strs,s.id≠id) (hm:(M.strs.length:Int)<M.cs) (hbye:M.bye=false) (h1:0<=M.window/\M.window<=2147483647) (h2:0<=M.others/\M.others<=2147483647) (h3:M.strs.length<=1000000) (hu:(M.strs.map (·.id)).Nodup) (hpos:0<hs.length) (hev:M.evs.length<=900000)
 (ho:(openS rules4 hs req0).isSome=true):TakesT M 1 ((if fin then 1 else 0)|||(if true then 4 else 0)) id l (λM'=>∃A c,M'=doneM M id fin hs t' A c):=by
 refine takes_headsA M _ id fin l hs t' hlen hdec hg hdg hl hside hodd hk hnew hid λW ow b L A c hE hc h4 hz h5 h0=>?_;refine(opened_ok W ow b _ L id A c hs fin hc hid hns hm hbye h1 h2 h3 hu h4 h5 hpos (h0 hpos) hev λW' hf hr=>?_).mono λ_ _ hp=>⟨_,⟨A,c,rfl⟩,hp⟩;obtain⟨e1,e2,e3,h6⟩:=(hE.fr hf).env;exact headOk_of' h6 (len_of hz) h4 (hr.more hf.size) (szs_of hz) ho
theorem takes_dataG (M:Cv) (s:Sv) (l:List UInt8) (fin:Bool) (hg:M.greeted=true) (hl:M.list=none) (hk:knownB M s.id=true) (hst:strAt M (s.id:Int)=some s) (ho1:s.other=1) (ho3:s.own≠3) (hid:0<s.id/\s.id<=2147483647) (hu:(M.strs.map (·.id)).Nodup)
 (h4:l.length<=16384) (hw1:(l.length:Int)<=M.inw/\M.inw<=65535) (hw2:(l.length:Int)<=s.inw/\s.inw<=65535) (hh:s.held<=1000000) (ho:M.out.length<=900000000) (hev:M.evs.length<=900000):
 TakesT M 0 (if fin then 1 else 0) s.id l (λM'=>∃A c,M'=dataMG M s l.length l fin A c):=by
 intro w ow b L A c hE h hr h5 hc;have hM:({M with greeted:=true}:Cv)=M:=by
  cases M;simp only at hg;subst hg
  rfl
 refine takes_any w ow b M L _ 0 _ s.id 148 #[.pointer (some ⟨b,0,none⟩)] (λ_=>#[]) A l.length c l {typ:=0,stream:=s.id,endd:=fin,data:=l} h hr h5 hc h4 (by decide) (by cases fin<;>decide) hid.2 (by cases fin<;>rfl) (by cases fin<;>decide) hl (by decide) (.inl hg) (opn_data s.id (by omega) fin l) (λg=>rfl) enter_cdata (λe w' hq=>.inl hq.ret) ?_;intro W g sv dv h2 h6 h7 h8 hs hd;rw[hM]at h2;obtain⟨A6,c6,rfl,h0,_,h1⟩:=hd.form;refine(data_okG w ow W ow b M L s {typ:=0,stream:=s.id,endd:=fin,data:=l} sv A6 l.length c6 l.length 0 l h6 h2 hk hst rfl ho1 ho3 hid hu h1 (λhp ad e=>by
  have h3:=(hd.lt (g:=ad.block) (by rw[e];rfl)).2;exact⟨h.new _ h3,h3,UF.ow hd (by rw[e];rfl)⟩) h0 (Nat.le_refl _) (by omega) (by omega) hw1 hw2 hh ho hev).mono ?_
 rintro e w' ⟨M',rfl,hp⟩;exact⟨_,⟨A6,c6,rfl⟩,hp⟩
end Go.Proofs.YtkpppjhbmnfmkaaGreatDoor
