import Derived.Test.YtkpppjhbmnfmkaaGreatDoorKq
import Derived.Test.YtkpppjhbmnfmkaaGreatDoorKr
import Derived.Test.YtkpppjhbmnfmkaaGreatDoorJar
import Derived.Test.YtkpppjhbmnfmkaaGreatDoorJaj
import Derived.Test.YtkpppjhbmnfmkaaGreatDoorJau
import Derived.Test.YtkpppjhbmnfmkaaGreatDoorJaz
set_option linter.unusedSimpArgs false
set_option linter.unusedVariables false
namespace Go.Proofs.YtkpppjhbmnfmkaaGreatDoor
open Go.RowKit Go.Own Go.Own.Im Go.Own.Cx Go.Own.Fr Go.Own.Hd
theorem Env.d {w:World} {ow:Nat->Tg} (h:Env w ow):EnvD w ow:=⟨h.hp,h.no⟩
theorem tag_no {w W:World} {ow:Nat->Tg} {b:Nat} {M:Cv} {L:Lay} (h:CN w ow b M L) {A6:Option Addr} {c6:Nat} {l:List UInt8} (hd:Ow W w.heap.size 5 (.slice A6 l.length c6) l.length l):0<l.length->∀ad,A6=some ad->ow ad.block= .no:=λh1 ad ha=>by
 refine h.new _ ?_;rcases hd.2 with⟨e,h0⟩|⟨g,cap,cur,e,hb,_⟩
 · have h0:l.length=0:=h0
   omega
 · injection e with e
   rw[ha]at e;injection e with e
   rw[e];exact hb
def padI (id:Nat) (fin:Bool) (pad:Nat) (l:List UInt8):Inf:={({info0 1 (dfl fin) id with pad:=pad}:Inf)with data:=l}
theorem pad_take (pad:Nat) (l:List UInt8):(l++List.replicate pad (0:UInt8)).take ((l++List.replicate pad (0:UInt8)).length-pad)=l:=by
 rw[List.length_append,List.length_replicate,Nat.add_sub_cancel];exact List.take_left
theorem opn_padh (s pad:Nat) (l:List UInt8) (fin:Bool) (h0:s≠0) (hp:pad<=63):opn 1 (dfl fin) s (padB pad l)= .ok (padI s fin pad l):=by
 have h8:hasF 1 (dfl fin) 8=true:=by cases fin<;>decide
 unfold opn padB;rw[if_neg (by intro h;rcases h with h|h;exact h0 h.1;exact absurd h.2 (by decide)),if_pos h8];show(if(UInt8.ofNat pad::(l++List.replicate pad 0)).length<=(UInt8.ofNat pad).toNat then _ else _)=_;rw[pad_nat pad hp,if_neg (by simp;omega),pad_take];cases fin<;>rfl
theorem open_padh (s pad:Nat) (l:List UInt8) (fin:Bool) (h0:s≠0) (hs:s<=2147483647) (hp:pad<=63) (A:Option Addr) (c B:Nat) (W:World) (hr:Rd W B A (padB pad l).length (padB pad l)) (hB:B<=W.heap.size) (hc:(padB pad l).length<=c) (hn:(padB pad l).length<=16384):
 Calls Tryz.prog 104 #[.agg #[.int .i64 (1:Nat),.int .i64 (dfl fin:Nat),.int .i64 (s:Nat),.slice A (padB pad l).length c]] W (OpPost W 1 (dfl fin) s (padB pad l)):=by
 have h2:=padB_len pad l;refine open_pads 1 (dfl fin) s (.inr (.inl rfl)) A _ c B _ _ W hr hB hc (by omega) (by cases fin<;>decide) (by cases fin<;>decide) hs h0 (by rw[pad_nat pad hp];omega) ?_;intro W' g g3 g6 g8 A' n' c' hb hI hg h1 h3 h4;exact⟨_,#[],rfl,enter_heads,rdHeads g _ A' n' c' _ _ W' hI h1 hb.size (by omega) rfl (by cases fin<;>rfl) rfl⟩
theorem takes_padbegin (M:Cv) (id pad:Nat) (fin:Bool) (l:List UInt8) (hg:M.greeted=true) (hl:M.list=none) (hside:M.side=2) (hodd:id % 2=1) (hid:id<=2147483647) (hp:pad<=63) (hn:l.length<=16320):
 TakesT M 1 (dfl fin) id (padB pad l) (λM'=>M'={M with list:=some (id,fin,l)}):=by
 intro w ow b L A c hE h hr h7 hc;have h0:id≠0:=by omega
 have hi:=padB_len pad l;have h8:dfl fin<=255:=by cases fin<;>decide
 refine takes_gen w ow b M L _ 1 (dfl fin) id 149 #[] (λg=>#[.pointer (some ⟨g,0,none⟩)]) A _ c _ (padI id fin pad l) h hr h7 hc (by omega) (by decide) h8 hid
  (λW h9 hB=>open_padh id pad l fin h0 hid hp A c w.heap.size W h9 hB hc (by omega)) hl (by decide) (.inl hg) (opn_padh id pad l fin h0 hp) (λg=>rfl) enter_works1 (λe w' hq=>.inl hq.ret) ?_
 intro W g sv dv h4 hb he hf hj hd;rw[greet_same hg]at h4;obtain⟨A6,c6,rfl,hh,_,h3⟩:=hd.form;have h1:(padI id fin pad l).endd=fin:=by cases fin<;>rfl
 refine(works1_any W ow b g M _ L (padI id fin pad l) sv _ _ h4 he (h.new g hf) hside hodd ?_).mono λe w' hp=>hp.trans hb;intro W2 ow2 L2 h5 h6;rw[h1]at h5;have h2:=tag_no h hd;exact piece_more W2 ow2 b {M with list:=some (id,fin,[])} L2 id fin [] l (padI id fin pad l) sv A6 l.length c6 h5 rfl (by cases fin<;>rfl) ((h6.rd h3 (Nat.le_refl _) h2).more h6.size) (by simp;omega)
def doneM (M:Cv) (id:Nat) (fin:Bool) (hs:List HdrV) (t':Hk.TM) (A:Option Addr) (c:Nat):Cv:=opnM {M with list:=none,hp:=M.hp.turned t'} id fin hs A c
def badM (M:Cv) (id:Nat) (t':Hk.TM):Cv:={M with list:=none,hp:=M.hp.turned t',last:=id,out:=M.out++frameB 3 0 id (be 1 4)}
theorem takes_last (M:Cv) (S:Cv->Prop) (id:Nat) (fin:Bool) (l0 l:List UInt8) (hs:List HdrV) (t':Hk.TM) (hg:M.greeted=true) (hdg:M.hp.dgone=false) (hl:M.list=some (id,fin,l0)) (hside:M.side=2) (h0:id≠0) (hid:id<=2147483647) (hk:knownB M id=false) (hnew:strAt M (id:Int)=none)
 (hn:l0.length+l.length<=16384) (hdec:Hk.decP M.hp.dt (l0++l)=some (hs,t'))
 (hop:∀W ow b L A c,Env W ow->CN W ow b {M with list:=none,hp:=M.hp.turned t'} L->hs.length<=c->hszs hs<=16384->Cm.RS hdrC 3 W W.heap.size A hs.length hs->(0<hs.length->∀ad,A=some ad->ow ad.block= .evd)->Calls Tryz.prog 196 #[.pointer (some ⟨b,0,none⟩),.int .i64 (id:Nat),.slice A hs.length c,.bool fin] W (CPostS W ow b S (.tuple #[]))):
 TakesT M 9 4 id l S:=by
 intro w ow b L A c hE h hr hb hc;refine takes_more w ow b M L fin l0 _ 9 4 id 151 #[] (λg=>#[.pointer (some ⟨g,0,none⟩)]) A l.length c l {typ:=9,stream:=id,endHeads:=true,data:=l} h hr hb hc (by omega) (by decide) (by decide) hid rfl (by decide) hl rfl hg (opn_cont id h0 true l) (λg=>rfl) enter_works2 (λe w' hq=>.inl hq.ret) ?_;intro W g sv dv h7 h8 he ho ht hd;rw[greet_same hg]at h7;obtain⟨A6,c6,rfl,h4,_,h5⟩:=hd.form;refine works2_any W ow b g M L _ {typ:=9,stream:=id,endHeads:=true,data:=l} sv _ _ h7 he (λe w' hq=>.inl hq.ret) λW2 hf h3=>?_;have h1:=tag_no h hd;have h9:Env W2 ow:=(hE.fr h8).fr h3;refine(piece_good W2 ow b M S L id fin l0 l {typ:=9,stream:=id,endHeads:=true,data:=l} sv A6 l.length c6 hs t' hf h9.d hdg hl rfl ((h3.rd h5 (Nat.le_refl _) h1).more h3.size) h4 hn hdec hside hk hnew hid ?_).mono λe w' hp=>hp.trans (h8.trans h3);intro W3 ow3 L3 A3 c3 hh hi hj hm h6 h2;exact hop W3 ow3 b L3 A3 c3 (h9.fr hi) hh hj hm h6 h2
theorem takes_lastok (M:Cv) (id:Nat) (fin:Bool) (l0 l:List UInt8) (hs:List HdrV) (t':Hk.TM) (hg:M.greeted=true) (hdg:M.hp.dgone=false) (hl:M.list=some (id,fin,l0)) (hside:M.side=2) (h0:id≠0) (hid:id<=2147483647) (hk:knownB M id=false) (hnew:strAt M (id:Int)=none)
 (hn:l0.length+l.length<=16384) (hdec:Hk.decP M.hp.dt (l0++l)=some (hs,t')) (hns:∀s∈M.strs,s.id≠id) (hm:(M.strs.length:Int)<M.cs) (hbye:M.bye=false) (h1:0<=M.window/\M.window<=2147483647) (h2:0<=M.others/\M.others<=2147483647) (h3:M.strs.length<=1000000) (hu:(M.strs.map (·.id)).Nodup) (hpos:0<hs.length) (hev:M.evs.length<=900000)
 (ho:(openS rules4 hs req0).isSome=true):TakesT M 9 4 id l (λM'=>∃A c,M'=doneM M id fin hs t' A c):=by
 refine takes_last M _ id fin l0 l hs t' hg hdg hl hside h0 hid hk hnew hn hdec λW ow b L A c hE hc h5 hz h6 h4=>?_;refine(opened_ok W ow b _ L id A c hs fin hc hid hns hm hbye h1 h2 h3 hu h5 h6 hpos (h4 hpos) hev λW' hf hr=>?_).mono λ_ _ hp=>⟨_,⟨A,c,rfl⟩,hp⟩;obtain⟨e1,e2,e3,h7⟩:=(hE.fr hf).env;exact headOk_of' h7 (len_of hz) h5 (hr.more hf.size) (szs_of hz) ho
theorem takes_lastbad (M:Cv) (id:Nat) (fin:Bool) (l0 l:List UInt8) (hs:List HdrV) (t':Hk.TM) (hg:M.greeted=true) (hdg:M.hp.dgone=false) (hl:M.list=some (id,fin,l0)) (hside:M.side=2) (h0:id≠0) (hid:id<=2147483647) (hk:knownB M id=false) (hnew:strAt M (id:Int)=none)
 (hn:l0.length+l.length<=16384) (hdec:Hk.decP M.hp.dt (l0++l)=some (hs,t')) (hm:(M.strs.length:Int)<M.cs) (hbye:M.bye=false) (hout:M.out.length<=1000000000)
 (ho:openS rules4 hs req0=none):TakesT M 9 4 id l (λM'=>M'=badM M id t'):=by
 refine takes_last M _ id fin l0 l hs t' hg hdg hl hside h0 hid hk hnew hn hdec λW ow b L A c hE hc h2 hz h3 h1=>?_;refine(opened_bad W ow b _ L id A c hs fin hc ⟨h0,hid⟩ hm hbye hout h3 h1 λW' hf hr=>?_).mono λ_ _ hp=>⟨_,rfl,hp⟩;obtain⟨e1,e2,e3,h4⟩:=(hE.fr hf).env;exact headBad_of h4 (len_of hz) h2 (hr.more hf.size) (szs_of hz) ho
end Go.Proofs.YtkpppjhbmnfmkaaGreatDoor
