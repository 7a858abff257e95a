/-
  
  
-/
import Derived.Test.YtkpppjhbmnfmkaaGreatDoorJbd
import Derived.Test.YtkpppjhbmnfmkaaGreatDoorJba
import Derived.Test.YtkpppjhbmnfmkaaGreatDoorJaw
import Derived.Test.YtkpppjhbmnfmkaaGreatDoorMb
import Derived.Test.YtkpppjhbmnfmkaaGreatDoorMc
import Derived.Test.YtkpppjhbmnfmkaaGreatDoorLm
import Derived.Test.YtkpppjhbmnfmkaaGreatDoorJbb
import Derived.Test.YtkpppjhbmnfmkaaGreatDoorJbc
import Derived.Test.YtkpppjhbmnfmkaaGreatDoorJaz
set_option linter.unusedSimpArgs false
set_option linter.unusedVariables false
section
namespace Go.Proofs.YtkpppjhbmnfmkaaGreatDoor
open Go.RowKit Go.Own Go.Own.Im Go.Own.Cx Go.Own.Fr Go.Own.Hd
def Does (M:Cv) (t f s:Nat) (p:List UInt8) (S:Cv->Prop):Prop:=TakesT M t f s p S\/∃c0 s0 S1,TakesP M t f s p S1 c0 s0/\∀M1,S1 M1->FaultT M1 c0 s0 S
def LiveQ (n:Nat):Ks->Prop
 | .up K=>Live n K
 | .down _ _=>True
def Tame (new:List EvV):Prop:=new.length<=1/\∀e∈new,e.l.length<=10000
theorem tame_nil:Tame []:=⟨Nat.zero_le _,λe he=>(by cases he)⟩
theorem tame_one {e:EvV} (h:e.l.length<=10000):Tame [e]:=⟨Nat.le_refl _,λx hx=>by rw[List.mem_singleton.1 hx];exact h⟩
def Met (n:Nat) (K:Cv) (t f s:Nat) (p:List UInt8):Prop:=∃Q new,LiveQ (n+1) Q/\Tame new/\∀E r a b c,E.length<=800000->Does (mkC K E r a b c) t f s p (BehS Q new (mkC K E r a b c))
def deadQ (K:Cv) (c:Nat):Ks:=.down (K.out++frameB 7 0 0 (be (lastB K) 4++be c 4)) c
def deadE (c:Nat):List EvV:=[{kind:=8,code:=c}]
section
variable {n:Nat} {K:Cv} {t f s:Nat} {p:List UInt8} {j:Inf}
theorem beh_dead {M M1:Cv} (c:Nat) (ho:M1.out=K.out) (hl:M1.last=K.last) (hs:M1.side=K.side) (he:M1.evs=M.evs):BehS (deadQ K c) (deadE c) M (deadM M1 c):=
 ⟨⟨rfl,by show M1.out++frameB 7 0 0 (be (lastB M1) 4++be c 4)=_;unfold lastB;rw[ho,hl,hs],rfl,rfl⟩,by show(M1.evs++[_]).map enE=_;rw[List.map_append,he];rfl,λh=>by cases h⟩
theorem fault_dies {M M1:Cv} (hK:Live n K) (hn:n<=1000000) (c:Nat) (hc:c<=20) (ho:M1.out=K.out) (hl:M1.last=K.last) (hs:M1.side=K.side) (he:M1.evs=M.evs) (hev:M.evs.length<=800000):FaultT M1 c 0 (BehS (deadQ K c) (deadE c) M):=λw ow b L h=>
 (faulty_dead w ow b M1 L c h (by omega) (by rw[hl];exact hK.last) (by have:=hK.out;rw[ho];omega) (by rw[he];omega)).mono λ_ _ hp=>⟨_,beh_dead c ho hl hs he,hp⟩
theorem met_dies (hK:Live n K) (hn:n<=1000000) (cd:Nat) (hc:cd<=20) (hT:∀E r a b c,E.length<=800000->∃S1,TakesP (mkC K E r a b c) t f s p S1 cd 0/\∀M1,S1 M1->M1.out=K.out/\M1.last=K.last/\M1.side=K.side/\M1.evs=E):Met n K t f s p:=by
 refine⟨deadQ K cd,deadE cd,trivial,tame_one (Nat.zero_le _),λE r a b c h0=>?_⟩;obtain⟨S1,h1,h2⟩:=hT E r a b c h0;refine .inr ⟨cd,0,S1,h1,λM1 hm=>?_⟩;obtain⟨e1,e2,e3,e4⟩:=h2 M1 hm;exact fault_dies hK hn cd hc e1 e2 e3 e4 h0
def strQ (K:Cv) (cd id:Nat):Ks:=match strAt K (id:Int)with
 |some s=>.up (nf (rstM K s cd))
 |none=>if knownB K id=true then .up (nf K)else deadQ K cd
def strE (K:Cv) (cd id:Nat):List EvV:=match strAt K (id:Int)with
 |some s=>[{kind:=4,stream:=s.id,code:=cd}]
 |none=>if knownB K id=true then[]else deadE cd
theorem Live.rsts (hK:Live n K) {s:Sv} (hs:s∈K.strs) (cd:Nat):Live (n+1) (rstM K s cd):=by
 have h1:Live (n+1) (leaveM {K with out:=K.out++frameB 3 0 s.id (be cd 4)} s):=hK.leaves hs (by rw[frameB_len,be_len];omega);exact{h1 with}
theorem strQ_live (hK:Live n K) (cd id:Nat):LiveQ (n+1) (strQ K cd id):=by
 unfold strQ
 split
 · rename_i s hs
   exact(hK.rsts (hK.at hs).2 cd).nf
 · split
   · exact hK.more.nf
   · exact trivial
theorem strE_len (K:Cv) (cd id:Nat):Tame (strE K cd id):=by
 unfold strE
 split
 · exact tame_one (Nat.zero_le _)
 · split
   · exact tame_nil
   · exact tame_one (Nat.zero_le _)
theorem fault_str (hK:Live n K) (hn:n<=1000000) (cd id:Nat) (hc:cd<=20) (h0:id≠0) (hid:id<=2147483647) (E:List EvV) (r:List UInt8) (a:Hk.TM) (b:Bool) (c:Nat) (hev:E.length<=800000):FaultT (mkC K E r a b c) cd id (BehS (strQ K cd id) (strE K cd id) (mkC K E r a b c)):=by
 intro w ow b9 L h;unfold strQ strE;cases h1:strAt K (id:Int)with
 |some s=>
  obtain⟨rfl,hs⟩:=hK.at h1;have hh:=hK.held hs;have hi:=hK.inw;refine(faulty_rst w ow b9 (mkC K E r a b c) L cd s h h1 ⟨h0,hid⟩ hK.nd (by omega) (show -2147483647<=K.inw/\K.inw<=2147483647 by omega) (show K.inw+s.held<=2147483647 by omega) (by omega) (show K.out.length<=_ by have:=hK.out;omega) (show E.length<=_ by omega)).mono λe w' hp=>⟨_,?_,hp⟩;exact⟨⟨rfl,hK.dead⟩,List.map_append ..,λ_=>rfl⟩
 |none=>
  cases hk:knownB K id with
  |true=>
   refine(faulty_past w ow b9 (mkC K E r a b c) L cd id h h0 hid h1 hk).mono λe w' hp=>⟨_,?_,hp⟩;exact⟨⟨rfl,hK.dead⟩,(List.append_nil _).symm,λ_=>rfl⟩
  |false=>
   refine(faulty_lost w ow b9 (mkC K E r a b c) L cd id h h0 hid h1 hk (by omega) hK.last (show K.out.length<=_ by have:=hK.out;omega) (show E.length<=_ by omega)).mono λe w' hp=>⟨_,?_,hp⟩;exact beh_dead cd rfl rfl rfl rfl
theorem met_str {K1:Cv} (hK1:Live n K1) (hn:n<=1000000) (cd id:Nat) (hc:cd<=20) (h0:id≠0) (hid:id<=2147483647) (hT:∀E r a b c,E.length<=800000->∃S1,TakesP (mkC K E r a b c) t f s p S1 cd id/\∀M1,S1 M1->∃a b c,M1=mkC K1 E r a b c):Met n K t f s p:=by
 refine⟨strQ K1 cd id,strE K1 cd id,strQ_live hK1 cd id,strE_len K1 cd id,λE r a b c h3=>?_⟩;obtain⟨S1,h1,h2⟩:=hT E r a b c h3;refine .inr ⟨cd,id,S1,h1,λM1 hm=>?_⟩;obtain⟨a1,b1,c1,rfl⟩:=h2 M1 hm;intro w ow b9 L h;exact(fault_str hK1 hn cd id hc h0 hid E r a1 b1 c1 h3 w ow b9 L h).mono λe w' ⟨M',h,k⟩=>⟨M',h,k⟩
theorem met_takes {K1:Cv} {new:List EvV} (hL:Live (n+1) K1) (hl:Tame new) (hT:∀E r a b c,E.length<=800000->TakesT (mkC K E r a b c) t f s p (λM'=>∃E' a' b' c',M'=mkC K1 E' r a' b' c'/\E'.map enE=E.map enE++new)):Met n K t f s p:=by
 refine⟨.up (nf K1),new,hL.nf,hl,λE r a b c h0=>.inl ((hT E r a b c h0).mono λM' h=>?_)⟩;obtain⟨E',a',b',c',rfl,he⟩:=h;exact⟨⟨rfl,hL.dead⟩,he,λ_=>rfl⟩
variable {M:Cv}
theorem gen_take (hl:M.list=none) (hgr:M.greeted=true\/(t=4/\f&&& 1=0)) (S:Cv->Prop) (Kf:Nat) (fst:Nat->Array Value) (cap:Nat->Array Value) (ho:opn t f s p= .ok j) (h9:t≠9) (hn:p.length<=16384) (ht:t<=255) (hf:f<=255) (hs:s<=2147483647) (h2:∀g b,wkF g b (t:Int)=some (.func (.func Kf) (fst b) (cap g))) (hE:Enters Tryz.prog Kf)
 (hw:∀(w W:World) (ow:Nat->Tg) (b g:Nat) (L:Lay) (sv dv:Value),(∀i,w.heap.size<=i->ow i= .no)->Fr w ow W ow->Env W ow->CN W ow b {M with greeted:=true} L->Blk W g 26 #[.pointer (some ⟨b,0,none⟩)]->ow g= .no->SetO W w.heap.size sv j.sets->Ow W w.heap.size 5 dv j.data.length j.data->
   Calls Tryz.prog Kf (fst b++(#[.agg (infC j sv dv),.int .i64 (p.length:Nat)]++cap g)) W (CPostS w ow b S (.tuple #[]))):
 TakesT M t f s p S:=by
 intro w ow b L A c h3 hc hr h4 h0;refine takes_gen w ow b M L _ t f s Kf (fst b) cap A p.length c p j hc hr h4 h0 hn ht hf hs (opn_call t f s A p.length c p h0 hn ht hf hs) hl h9 hgr ho (λg=>h2 g b) hE (λe w' hq=>.inl hq.ret) ?_;intro W g sv dv h5 h1 h6 h7 h8 hd;exact hw w W ow b g L sv dv hc.new h1 (h3.fr h1) h5 h6 (hc.new g h7) h8 hd
theorem gen_giveS (hl:M.list=none) (hgr:M.greeted=true\/(t=4/\f&&& 1=0)) (S:Cv->Prop) (c0 s0 Kf:Nat) (fst:Nat->Array Value) (cap:Nat->Array Value) (ho:opn t f s p= .ok j) (h9:t≠9) (hn:p.length<=16384) (ht:t<=255) (hf:f<=255) (hs:s<=2147483647) (h2:∀g b,wkF g b (t:Int)=some (.func (.func Kf) (fst b) (cap g))) (hE:Enters Tryz.prog Kf)
 (hw:∀(w W:World) (ow:Nat->Tg) (b g:Nat) (L:Lay) (sv dv:Value),(∀i,w.heap.size<=i->ow i= .no)->Fr w ow W ow->Env W ow->CN W ow b {M with greeted:=true} L->Blk W g 26 #[.pointer (some ⟨b,0,none⟩)]->ow g= .no->SetO W w.heap.size sv j.sets->Ow W w.heap.size 5 dv j.data.length j.data->
   Calls Tryz.prog Kf (fst b++(#[.agg (infC j sv dv),.int .i64 (p.length:Nat)]++cap g)) W (PPostS w ow b S c0 s0)):
 TakesP M t f s p S c0 s0:=by
 intro w ow b L A c h3 hc hr h4 h0;refine takes_gen w ow b M L _ t f s Kf (fst b) cap A p.length c p j hc hr h4 h0 hn ht hf hs (opn_call t f s A p.length c p h0 hn ht hf hs) hl h9 hgr ho (λg=>h2 g b) hE (λe w' hq=>.inr ⟨_,hq.ret⟩) ?_;intro W g sv dv h5 h1 h6 h7 h8 hd;exact hw w W ow b g L sv dv hc.new h1 (h3.fr h1) h5 h6 (hc.new g h7) h8 hd
theorem gen_give (hl:M.list=none) (hg:M.greeted=true) (c0 s0 Kf:Nat) (fst:Nat->Array Value) (cap:Nat->Array Value) (ho:opn t f s p= .ok j) (h9:t≠9) (hn:p.length<=16384) (ht:t<=255) (hf:f<=255) (hs:s<=2147483647) (hfn:∀g b,wkF g b (t:Int)=some (.func (.func Kf) (fst b) (cap g))) (hE:Enters Tryz.prog Kf)
 (hw:∀(W:World) (ow:Nat->Tg) (b g:Nat) (L:Lay) (sv dv:Value),Env W ow->CN W ow b M L->Blk W g 26 #[.pointer (some ⟨b,0,none⟩)]->ow g= .no->
   Calls Tryz.prog Kf (fst b++(#[.agg (infC j sv dv),.int .i64 (p.length:Nat)]++cap g)) W λe w'=>e= .panicked (fltE c0 s0)/\Below W.heap.size W w'):
 TakesP M t f s p (λM'=>M'=M) c0 s0:=
 gen_giveS hl (.inl hg) _ c0 s0 Kf fst cap ho h9 hn ht hf hs hfn hE λw W ow b g L sv dv _ hF h0 hc hb h1 _ _=>by
  rw[greet_same hg]at hc;exact(hw W ow b g L sv dv h0 hc hb h1).mono λe w' hp=>⟨M,ow,L,rfl,hp.1,hc.below hp.2,hF.trans (Fr.below hp.2 ow)⟩
theorem met_bad (hK:Live n K) (hn:n<=1000000) (hl:K.list=none) (hgr:K.greeted=true\/(t=4/\f&&& 1=0)) (x:Nat×Nat) (ho:opn t f s p= .error x) (h9:t≠9) (hp:p.length<=16384) (ht:t<=255) (hf:f<=255) (hs:s<=2147483647):Met n K t f s p:=by
 have hT:∀E r a b c,TakesP (mkC K E r a b c) t f s p (λM'=>M'=mkC {K with greeted:=true} E r a b c) x.1 x.2:=λE r a b c=>by
  intro w ow b9 L A c9 hE hc hr h4 h3;exact takes_bad w ow b9 (mkC K E r a b c) L t f s A p.length c9 p x hc hr h4 h3 hp ht hf hs (opn_call t f s A p.length c9 p h3 hp ht hf hs) hl h9 hgr ho
 obtain⟨h1,h2⟩:=opn_err ho;by_cases h0:x.2=0
 · refine met_dies hK hn x.1 (by omega) λE r a b c _=>⟨_,by have:=hT E r a b c;rw[h0]at this;exact this,λM1 hm=>?_⟩
   subst hm;exact⟨rfl,rfl,rfl,rfl⟩
 · exact met_str hK.greets hn x.1 x.2 (by omega) h0 (by omega) λE r a b c _=>⟨_,hT E r a b c,λM1 hm=>⟨a,b,c,hm⟩⟩
theorem met_none (hK:Live n K) (hl:K.list=none) (hg:K.greeted=true) (ho:opn t f s p= .ok j) (hw:∀g b,wkF g b (t:Int)=none) (h9:t≠9) (hp:p.length<=16384) (ht:t<=255) (hf:f<=255) (hs:s<=2147483647):Met n K t f s p:=
 met_takes (new:=[]) hK.more tame_nil λE r a b c _=>by
  intro w ow b9 L A c9 hE hc hr h2 h0;have h1:=takes_none w ow b9 (mkC K E r a b c) L t f s A p.length c9 p j hc hr h2 h0 hp ht hf hs (opn_call t f s A p.length c9 p h0 hp ht hf hs) hl h9 (.inl hg) ho (λg=>hw g b9);rw[greet_same (M:=mkC K E r a b c) hg]at h1;exact h1.mono λe w' ⟨M',h,k⟩=>⟨M',⟨E,a,b,c,h,(List.append_nil _).symm⟩,k⟩
theorem met_push (hK:Live n K) (hn:n<=1000000) (hl:K.list=none) (hg:K.greeted=true) (ho:opn 5 f s p= .ok j) (hp:p.length<=16384) (hf:f<=255) (hs:s<=2147483647):Met n K 5 f s p:=
 met_dies hK hn 1 (by decide) λE r a b c _=>⟨_,gen_give (M:=mkC K E r a b c) hl hg 1 0 152 (λ_=>#[]) (λ_=>#[]) ho (by decide) hp (by decide) hf hs (λ_ _=>rfl) enter_push3 λW ow b g L sv dv _ hc hb _=>push_give W j sv dv _,λM1 hm=>by subst hm;exact⟨rfl,rfl,rfl,rfl⟩⟩
theorem met_ping (hK:Live n K) (hn:n<=1000000) (hl:K.list=none) (hg:K.greeted=true) (ho:opn 6 f s p= .ok j) (hf:f<=255) (hs:s<=2147483647):Met n K 6 f s p:=by
 obtain⟨hj,h8⟩:=opn_ping ho;have h4:j.data=p:=by rw[hj]
 have h7:=hK.out;cases ha:j.ack with
 |false=>
  rw[ha]at hj;refine met_takes (K1:={K with out:=K.out++frameB 6 1 0 p}) (new:=[]) (hK.puts (by rw[frameB_len];omega)) tame_nil λE r a b c h5=>?_;refine gen_take (M:=mkC K E r a b c) hl (.inl hg) _ 156 (λ_=>#[]) (λg=>#[.pointer (some ⟨g,0,none⟩)]) ho (by decide) (by omega) (by decide) hf hs (λ_ _=>rfl) enter_ping5 λw W ow b9 g L sv dv h2 hF _ hc hb h6 _ hd=>?_;rw[greet_same (M:=mkC K E r a b c) hg]at hc;rw[h4]at hd;obtain⟨A,c9,rfl,h3,_,h0⟩:=hd.form;rw[h8]at h0 h3 hd;rw[hj,h8];exact(ping_no W ow b9 g (mkC K E r a b c) L s p sv A c9 _ hc hb h0 (show K.out.length<=_ by omega)).mono λe w' hp=>(hp.trans hF).s ⟨E,a,b,c,rfl,(List.append_nil _).symm⟩
 |true=>
  rw[ha]at hj;refine met_takes (K1:=K) (new:=[{kind:=5,by_:=p}]) hK.more (tame_one (Nat.zero_le _)) λE r a b c h5=>?_;refine gen_take (M:=mkC K E r a b c) hl (.inl hg) _ 156 (λ_=>#[]) (λg=>#[.pointer (some ⟨g,0,none⟩)]) ho (by decide) (by omega) (by decide) hf hs (λ_ _=>rfl) enter_ping5 λw W ow b9 g L sv dv h2 hF _ hc hb h6 _ hd=>?_;rw[greet_same (M:=mkC K E r a b c) hg]at hc;rw[h4]at hd;obtain⟨A,c9,rfl,h3,_,h0⟩:=hd.form;rw[h8]at h0 h3 hd;rw[hj,h8];refine(ping_yes w W ow ow b9 g (mkC K E r a b c) L s p sv A c9 _ hF hc hb h0 h3 (λad e=>?_) (show E.length<=_ by omega)).mono λe w' hp=>?_
  · have h1:=hd.lt (g:=ad.block) (by rw[e];rfl)
    exact⟨h2 _ h1.2,h1.2,UF.ow hd (by rw[e];rfl)⟩
  · obtain⟨M',⟨A',c',rfl⟩,hp⟩:=hp
    exact CPost.s hp ⟨_,a,b,c,rfl,List.map_append ..⟩
theorem met_away (hK:Live n K) (hn:n<=1000000) (hl:K.list=none) (hg:K.greeted=true) (ho:opn 7 f s p= .ok j) (hp:p.length<=16384) (hf:f<=255) (hs:s<=2147483647):Met n K 7 f s p:=by
 refine met_takes (K1:={K with gone:=true}) (new:=[{kind:=6,last:=j.last,code:=j.code}]) {hK.more with} (tame_one (Nat.zero_le _)) λE r a b c h4=>?_;refine gen_take (M:=mkC K E r a b c) hl (.inl hg) _ 157 (λ_=>#[]) (λg=>#[.pointer (some ⟨g,0,none⟩)]) ho (by decide) hp (by decide) hf hs (λ_ _=>rfl) enter_away6 λw W ow b9 g L sv dv h3 hF _ hc hb h0 _ hd=>?_;rw[greet_same (M:=mkC K E r a b c) hg]at hc;rcases hK.side with h1|h2
 · exact(away_none W ow b9 g (mkC K E r a b c) L j sv dv _ hc hb h0 (hK.cl h1).1 (show E.length<=_ by omega)).mono λe w' hp=>(hp.trans hF).s ⟨_,a,b,c,rfl,List.map_append ..⟩
 · exact(away_srv W ow b9 g (mkC K E r a b c) L j sv dv _ hc hb h0 h2 hK.ids (show K.strs.length<=_ by have:=hK.len;omega) (λs hs=>Nat.le_trans (hK.idb s hs).2 hK.last) (show E.length<=_ by omega)).mono λe w' hp=>(hp.trans hF).s ⟨_,a,b,c,rfl,List.map_append ..⟩
end
end Go.Proofs.YtkpppjhbmnfmkaaGreatDoor
end

section
namespace Go.Proofs.YtkpppjhbmnfmkaaGreatDoor
open Go.RowKit Go.Own Go.Own.Im Go.Own.Cx Go.Own.Fr Go.Own.Hd
theorem opn_zero {t f s:Nat} {p:List UInt8} {j:Inf} (h:opn t f s p= .ok j) (hr:(rowOf t).1=false):s≠0:=λe=>by
 unfold opn at h;rw[if_pos (.inl ⟨e,hr⟩)]at h;cases h
theorem opn_len0 {f s:Nat} {p:List UInt8} {j:Inf} (h:opn 0 f s p= .ok j):j.data.length<=p.length:=by
 unfold opn at h
 split at h
 · cases h
 split at h
 · cases p with
   |nil=>cases h
   |cons c q=>
    simp only at h
    split at h
    · cases h
    · rw[rd_0 rfl]at h
      injection h with h
      subst h;simp;omega
 · rw[rd_0 rfl]at h
   injection h with h
   subst h;exact Nat.le_refl _
theorem setsOf_four:∀(l:List UInt8) (q:List (Nat×Nat)),setsOf l= .ok q->∀x∈q,x.1=4->x.2<=2147483647
 |a::b::c::d::e::f::r,q,h=>by
  rw[setsOf]at h;cases hb:badSet (ofB 0 [a,b],ofB 0 [c,d,e,f])with
  |some k=>rw[hb]at h;cases h
  |none=>
   rw[hb]at h;cases hr:setsOf r with
   |error y=>rw[hr]at h;cases h
   |ok l=>
    rw[hr]at h;injection h with h
    subst h;intro x hx h4;rcases List.mem_cons.1 hx with rfl|hx
    · unfold badSet at hb
      split at hb
      · cases hb
      · split at hb
        · cases hb
        · rename_i h9
          exact Nat.le_of_not_lt λh8=>h9 ⟨h4,h8⟩
    · exact setsOf_four r _ hr x hx h4
 |[],q,h=>by injection h with h;subst h;exactλx hx=>(by cases hx)
 |[_],q,h=>by injection h with h;subst h;exactλx hx=>(by cases hx)
 |[_,_],q,h=>by injection h with h;subst h;exactλx hx=>(by cases hx)
 |[_,_,_],q,h=>by injection h with h;subst h;exactλx hx=>(by cases hx)
 |[_,_,_,_],q,h=>by injection h with h;subst h;exactλx hx=>(by cases hx)
 |[_,_,_,_,_],q,h=>by injection h with h;subst h;exactλx hx=>(by cases hx)
theorem opn_sets4 {f s:Nat} {p:List UInt8} {j:Inf} (h:opn 4 f s p= .ok j):∀x∈j.sets,x.1=4->x.2<=2147483647:=by
 have h:=opn_rd h (by decide);rw[rd_4 rfl]at h
 split at h
 · cases h
 · cases hs:setsOf p with
   |error y=>rw[hs]at h;cases h
   |ok l=>
    rw[hs]at h;injection h with h
    subst h;exact setsOf_four p l hs
section
variable {n:Nat} {K:Cv} {f s:Nat} {p:List UInt8} {j:Inf}
theorem Live.leaves0 (h:Live n K) {s:Sv} (hs:s∈K.strs):Live (n+1) (leaveM K s):=by
 have h1:=h.leaves (x:=[]) hs (by simp);rw[List.append_nil]at h1;exact h1
theorem met_reset (hK:Live n K) (hn:n<=1000000) (hl:K.list=none) (hg:K.greeted=true) (ho:opn 3 f s p= .ok j) (hp:p.length<=16384) (hf:f<=255) (hs:s<=2147483647):Met n K 3 f s p:=by
 have h1:=(opn_typ ho).2.1;have h6:=hK.out;cases hk:knownB K s with
 |false=>exact met_dies hK hn 1 (by decide) λE r a b c _=>⟨_,gen_give (M:=mkC K E r a b c) hl hg 1 0 153 (λ_=>#[]) (λg=>#[.pointer (some ⟨g,0,none⟩)]) ho (by decide) hp (by decide) hf hs (λ_ _=>rfl) enter_reset4 λW ow b9 g L sv dv _ hc hb _=>reset_idle W ow b9 g (mkC K E r a b c) L j sv dv _ hc hb (by rw[h1];exact hk),λM1 hm=>by subst hm;exact⟨rfl,rfl,rfl,rfl⟩⟩
 |true=>
  cases h2:strAt K (s:Int)with
  |none=>
   refine met_takes (K1:=K) (new:=[]) hK.more tame_nil λE r a b c h5=>?_;refine gen_take (M:=mkC K E r a b c) hl (.inl hg) _ 153 (λ_=>#[]) (λg=>#[.pointer (some ⟨g,0,none⟩)]) ho (by decide) hp (by decide) hf hs (λ_ _=>rfl) enter_reset4 λw W ow b9 g L sv dv h3 hF _ hc hb h4 _ _=>?_;rw[greet_same (M:=mkC K E r a b c) hg]at hc;exact(reset_none W ow b9 g (mkC K E r a b c) L j sv dv _ hc hb (by rw[h1];exact hk) (by rw[h1];exact h2) (by rw[h1];exact hs)).mono λe w' hp=>(hp.trans hF).s ⟨E,a,b,c,rfl,(List.append_nil _).symm⟩
  |some si=>
   obtain⟨hid,h0⟩:=hK.at h2;have hh:=hK.held h0;have hi:=hK.inw;refine met_takes (K1:=leaveM K si) (new:=[{kind:=4,stream:=si.id,code:=j.code}]) (hK.leaves0 h0) (tame_one (Nat.zero_le _)) λE r a b c h5=>?_;refine gen_take (M:=mkC K E r a b c) hl (.inl hg) _ 153 (λ_=>#[]) (λg=>#[.pointer (some ⟨g,0,none⟩)]) ho (by decide) hp (by decide) hf hs (λ_ _=>rfl) enter_reset4 λw W ow b9 g L sv dv h3 hF _ hc hb h4 _ _=>?_;rw[greet_same (M:=mkC K E r a b c) hg]at hc;exact(reset_some W ow b9 g (mkC K E r a b c) L si j sv dv _ hc hb h4 (by rw[h1];exact hid.symm) (hK.known h0) (by rw[hid];exact h2) (by omega) hK.nd (by omega) (show -2147483647<=K.inw/\K.inw<=2147483647 by omega) (show K.inw+si.held<=2147483647 by omega) (show K.out.length<=_ by omega) (show E.length<=_ by omega)).mono λe w' hp=>(hp.trans hF).s ⟨_,a,b,c,rfl,List.map_append ..⟩
theorem Live.outws (h:Live n K) {v:Int} (hv:0<=v/\v<=2147483647):Live (n+1) {K with outw:=v}:={h.more with outw:=hv}
theorem Live.strout (h:Live n K) {si:Sv} (hm:si∈K.strs) {v:Int} (hv:K.others<=v/\v<=2147483647):Live (n+1) {K with strs:=updS K.strs {si with outw:=v}}:=by
 have h0:=h.str si hm;have h1:=h.turns (s':={si with outw:=v}) (i:=K.inw) (x:=[]) hm rfl ⟨h0.own,h0.waits,h0.trails,h0.other,h0.inw,h0.low,h0.low0,hv⟩ (by have:=h.inw;show 0<=K.inw/\K.inw+(heldS K.strs-si.held+si.held)=65535;omega) (by simp);rw[List.append_nil]at h1;exact{h1 with}
theorem met_win (hK:Live n K) (hn:n<=1000000) (hl:K.list=none) (hg:K.greeted=true) (ho:opn 8 f s p= .ok j) (hp:p.length<=16384) (hf:f<=255) (hs:s<=2147483647):Met n K 8 f s p:=by
 have h1:=(opn_typ ho).2.1;obtain⟨h4,h5⟩:=opn_inc ho;have he:=hK.outw;by_cases h0:s=0
 · by_cases h7:2147483647<K.outw+j.inc
   · exact met_dies hK hn 3 (by decide) λE r a b c _=>⟨_,gen_give (M:=mkC K E r a b c) hl hg 3 0 158 (λ_=>#[]) (λg=>#[.pointer (some ⟨g,0,none⟩)]) ho (by decide) hp (by decide) hf hs (λ_ _=>rfl) enter_win7 λW ow b9 g L sv dv hE hc hb _=>win_over W ow b9 g (mkC K E r a b c) L j sv dv _ hc hb hE.hp.win hE.room (by rw[h1];exact h0) h4 h5 (show -2147483647<=K.outw/\K.outw<=2147483647 by omega) h7,λM1 hm=>by subst hm;exact⟨rfl,rfl,rfl,rfl⟩⟩
   · refine met_takes (K1:={K with outw:=K.outw+j.inc}) (new:=[]) (hK.outws (by omega)) tame_nil λE r a b c hd=>?_
     refine gen_take (M:=mkC K E r a b c) hl (.inl hg) _ 158 (λ_=>#[]) (λg=>#[.pointer (some ⟨g,0,none⟩)]) ho (by decide) hp (by decide) hf hs (λ_ _=>rfl) enter_win7 λw W ow b9 g L sv dv h3 hF _ hc hb h8 _ _=>?_;rw[greet_same (M:=mkC K E r a b c) hg]at hc;exact(win_conn W ow b9 g (mkC K E r a b c) L j sv dv _ hc hb h8 (by rw[h1];exact h0) h4 h5 (show -2147483647<=K.outw/\K.outw+j.inc<=2147483647 by omega)).mono λe w' hp=>(hp.trans hF).s ⟨E,a,b,c,rfl,(List.append_nil _).symm⟩
 cases hk:knownB K s with
 |false=>exact met_dies hK hn 1 (by decide) λE r a b c _=>⟨_,gen_give (M:=mkC K E r a b c) hl hg 1 0 158 (λ_=>#[]) (λg=>#[.pointer (some ⟨g,0,none⟩)]) ho (by decide) hp (by decide) hf hs (λ_ _=>rfl) enter_win7 λW ow b9 g L sv dv _ hc hb _=>win_idle W ow b9 g (mkC K E r a b c) L j sv dv _ hc hb (by rw[h1];exact hk) (by rw[h1];exact h0),λM1 hm=>by subst hm;exact⟨rfl,rfl,rfl,rfl⟩⟩
 |true=>
  cases h6:strAt K (s:Int)with
  |none=>
   refine met_takes (K1:=K) (new:=[]) hK.more tame_nil λE r a b c hd=>?_;refine gen_take (M:=mkC K E r a b c) hl (.inl hg) _ 158 (λ_=>#[]) (λg=>#[.pointer (some ⟨g,0,none⟩)]) ho (by decide) hp (by decide) hf hs (λ_ _=>rfl) enter_win7 λw W ow b9 g L sv dv h3 hF _ hc hb h8 _ _=>?_;rw[greet_same (M:=mkC K E r a b c) hg]at hc;exact(works7_gone W ow b9 g (mkC K E r a b c) L j sv dv _ hc hb (by rw[h1];exact hk) (by rw[h1];exact h6) (by rw[h1];exact h0) (by rw[h1];exact hs)).mono λe w' hp=>(hp.trans hF).s ⟨E,a,b,c,rfl,(List.append_nil _).symm⟩
  |some si=>
   obtain⟨hid,h2⟩:=hK.at h6;have h9:=(hK.str si h2).outw;have hh:=hK.oth;by_cases h7:2147483647<si.outw+j.inc
   · refine met_str hK hn 3 si.id (by decide) (by omega) (by omega) λE r a b c _=>⟨_,gen_give (M:=mkC K E r a b c) hl hg 3 si.id 158 (λ_=>#[]) (λg=>#[.pointer (some ⟨g,0,none⟩)]) ho (by decide) hp (by decide) hf hs (λ_ _=>rfl) enter_win7 λW ow b9 g L sv dv hE hc hb _=>works7_much W ow b9 g (mkC K E r a b c) L si j sv dv _ hc hb (hK.known h2) (by rw[hid];exact h6) (by rw[h1];exact hid.symm) (by omega) h4 h5 (by omega) h7 hE.hp.win hE.room,λM1 hm=>⟨a,b,c,hm⟩⟩
   · refine met_takes (K1:={K with strs:=updS K.strs {si with outw:=si.outw+j.inc}}) (new:=[]) (hK.strout h2 (by omega)) tame_nil λE r a b c hd=>?_
     refine gen_take (M:=mkC K E r a b c) hl (.inl hg) _ 158 (λ_=>#[]) (λg=>#[.pointer (some ⟨g,0,none⟩)]) ho (by decide) hp (by decide) hf hs (λ_ _=>rfl) enter_win7 λw W ow b9 g L sv dv h3 hF _ hc hb h8 _ _=>?_;rw[greet_same (M:=mkC K E r a b c) hg]at hc;exact(works7_more W ow b9 g (mkC K E r a b c) L si j sv dv _ hc hb (hK.known h2) (by rw[hid];exact h6) (by rw[h1];exact hid.symm) (by omega) h4 h5 (by omega) (by omega)).mono λe w' hp=>(hp.trans hF).s ⟨E,a,b,c,rfl,(List.append_nil _).symm⟩
theorem Live.acks (h:Live n K) (h4:K.acked=false):Live (n+1) {K with acked:=true,window:=K.cw,strs:=K.strs.map λs=>{s with inw:=s.inw+(K.cw-K.window)}}:=by
 have hw:=h.win0 h4;have h5:=h.cw;have h3:(K.strs.map λs=>({s with inw:=s.inw+(K.cw-K.window)}:Sv)).map (·.id)=K.strs.map (·.id):=by rw[List.map_map];rfl
 exact{h.more with
  ids:=(by rw[h3];exact h.ids:((K.strs.map λs=>({s with inw:=s.inw+(K.cw-K.window)}:Sv)).map (·.id)).Pairwise (·<·))
  idb:=λz hz=>by
   obtain⟨x,hx,rfl⟩:=List.mem_map.1 hz;exact h.idb x hx
  cl:=λhc=>⟨by show K.strs.map _=[];rw[(h.cl hc).1];rfl,(h.cl hc).2⟩
  win:=h5
  win0:=λhc=>by cases hc
  inw:=(by rw[heldS_map (g:=λs=>({s with inw:=s.inw+(K.cw-K.window)}:Sv)) λ_=>rfl];exact h.inw:0<=K.inw/\K.inw+heldS (K.strs.map λs=>({s with inw:=s.inw+(K.cw-K.window)}:Sv))=65535)
  str:=λz hz=>by
   obtain⟨x,hx,rfl⟩:=List.mem_map.1 hz;have h0:=h.str x hx;have h1:=h0.inw;have h2:=h0.low0 h4;exact⟨h0.own,h0.waits,h0.trails,h0.other,(by show x.inw+(K.cw-K.window)+(x.held:Int)<=K.cw;omega),(by show -65535<=x.inw+(K.cw-K.window);omega),(λhc=>by cases hc),h0.outw⟩
  len:=(by rw[List.length_map];exact h.more.len:(K.strs.map λs=>({s with inw:=s.inw+(K.cw-K.window)}:Sv)).length<=n+1)}
theorem met_ack (hK:Live n K) (hn:n<=1000000) (hl:K.list=none) (hg:K.greeted=true) (ho:opn 4 f s p= .ok j) (ha:j.ack=true) (hp:p.length<=16384) (hf:f<=255) (hs:s<=2147483647):Met n K 4 f s p:=by
 cases hk:K.acked with
 |true=>exact met_dies hK hn 1 (by decide) λE r a b c _=>⟨_,gen_give (M:=mkC K E r a b c) hl hg 1 0 155 (λb=>#[.pointer (some ⟨b,0,none⟩)]) (λ_=>#[]) ho (by decide) hp (by decide) hf hs (λ_ _=>rfl) enter_settings λW ow b9 g L sv dv _ hc hb _=>settings_twice W ow b9 (mkC K E r a b c) L j sv dv _ hc ha hk,λM1 hm=>by subst hm;exact⟨rfl,rfl,rfl,rfl⟩⟩
 |false=>
  have hw:=hK.win0 hk;have h4:=hK.cw;refine met_takes (K1:={K with acked:=true,window:=K.cw,strs:=K.strs.map λs=>{s with inw:=s.inw+(K.cw-K.window)}}) (new:=[]) (hK.acks hk) tame_nil λE r a b c h5=>?_;refine gen_take (M:=mkC K E r a b c) hl (.inl hg) _ 155 (λb=>#[.pointer (some ⟨b,0,none⟩)]) (λ_=>#[]) ho (by decide) hp (by decide) hf hs (λ_ _=>rfl) enter_settings λw W ow b9 g L sv dv h3 hF _ hc hb h6 _ _=>?_;rw[greet_same (M:=mkC K E r a b c) hg]at hc;refine(settings_ackS W ow b9 (mkC K E r a b c) L j sv dv _ hc ha hk hK.nd (show -2147483647<=K.cw-K.window/\K.cw-K.window<=2147483647 by omega) λx hx=>?_).mono λe w' hp=>(hp.trans hF).s ⟨E,a,b,c,rfl,(List.append_nil _).symm⟩;have h0:=hK.str x hx;have h1:=h0.inw;have h2:=h0.low0 hk;show -2147483647<=x.inw/\x.inw<=2147483647/\ -2147483647<=x.inw+(K.cw-K.window)/\x.inw+(K.cw-K.window)<=2147483647;omega
theorem setS_live (h:Live n K) (x:Nat×Nat) (hb:badS K x=false) (hx:x.1=4->x.2<=2147483647):Live n (setS K x):=by
 unfold setS
 split
 · exact{h with}
 split
 · exact{h with}
 split
 · rename_i h4
   have hx:=hx h4;have h3:(K.strs.map λs=>({s with outw:=s.outw+((x.2:Int)-K.others)}:Sv)).map (·.id)=K.strs.map (·.id):=by rw[List.map_map];rfl
   have h5:∀s∈K.strs,s.outw+((x.2:Int)-K.others)<=2147483647:=by
    unfold badS at hb;rw[decide_eq_true h4,Bool.true_and,List.any_eq_false]at hb;intro s hs;have:=hb s hs;simp only[decide_eq_true_eq]at this;omega
   exact{h with
    ids:=(by rw[h3];exact h.ids:((K.strs.map λs=>({s with outw:=s.outw+((x.2:Int)-K.others)}:Sv)).map (·.id)).Pairwise (·<·))
    idb:=λz hz=>by
     obtain⟨x,hx,rfl⟩:=List.mem_map.1 hz;exact h.idb x hx
    cl:=λhc=>⟨by show K.strs.map _=[];rw[(h.cl hc).1];rfl,(h.cl hc).2⟩
    oth:=(by omega:0<=(x.2:Int)/\(x.2:Int)<=2147483647)
    inw:=(by rw[heldS_map (g:=λs=>({s with outw:=s.outw+((x.2:Int)-K.others)}:Sv)) λ_=>rfl];exact h.inw:0<=K.inw/\K.inw+heldS (K.strs.map λs=>({s with outw:=s.outw+((x.2:Int)-K.others)}:Sv))=65535)
    str:=λz hz=>by
     obtain⟨y,hy,rfl⟩:=List.mem_map.1 hz;have h0:=h.str y hy;have h1:=h0.outw;have h2:=h5 y hy;exact⟨h0.own,h0.waits,h0.trails,h0.other,h0.inw,h0.low,h0.low0,(by show(x.2:Int)<=y.outw+((x.2:Int)-K.others)/\y.outw+((x.2:Int)-K.others)<=2147483647;omega)⟩
    len:=(by rw[List.length_map];exact h.len:(K.strs.map λs=>({s with outw:=s.outw+((x.2:Int)-K.others)}:Sv)).length<=n)}
 · exact h
theorem setsM_live:∀(l:List (Nat×Nat)) (K:Cv),Live n K->(∀x∈l,x.1=4->x.2<=2147483647)->∀K2,setsM l K= .inl K2->Live n K2
 |[],K,h,_,K2,e=>by injection e with e;exact e▸h
 |x::l,K,h,hx,K2,e=>by
  unfold setsM at e;cases hb:badS K x with
  |true=>rw[hb]at e;cases e
  |false=>
   rw[hb]at e;exact setsM_live l _ (setS_live h x hb (hx x (List.mem_cons_self ..))) (λy hy=>hx y (List.mem_cons_of_mem _ hy)) K2 e
theorem setS_mk (K:Cv) (x:Nat×Nat) (E:List EvV) (r:List UInt8) (a:Hk.TM) (b:Bool) (c:Nat):∃a' b' c',setS (mkC K E r a b c) x=mkC (setS K x) E r a' b' c':=by
 unfold setS
 split
 · exact⟨_,_,_,rfl⟩
 split
 · exact⟨a,b,c,rfl⟩
 split
 · exact⟨a,b,c,rfl⟩
 · exact⟨a,b,c,rfl⟩
theorem setsM_mk:∀(l:List (Nat×Nat)) (K:Cv) (E:List EvV) (r:List UInt8) (a:Hk.TM) (b:Bool) (c:Nat),∃a' b' c',setsM l (mkC K E r a b c)=(match setsM l K with
 | .inl K2=>.inl (mkC K2 E r a' b' c')
 | .inr K2=>.inr (mkC K2 E r a' b' c'))
 |[],K,E,r,a,b,c=>⟨a,b,c,rfl⟩
 |x::l,K,E,r,a,b,c=>by
  have hb:badS (mkC K E r a b c) x=badS K x:=rfl;cases h:badS K x with
  |true=>
   refine⟨a,b,c,?_⟩;unfold setsM;rw[hb,h]
   rfl
  |false=>
   obtain⟨a1,b1,c1,e1⟩:=setS_mk K x E r a b c;obtain⟨a2,b2,c2,e2⟩:=setsM_mk l (setS K x) E r a1 b1 c1;refine⟨a2,b2,c2,?_⟩;unfold setsM;rw[hb,h];show setsM l (setS (mkC K E r a b c) x)=_;rw[e1,e2]
   rfl
theorem setsM_keeps:∀(l:List (Nat×Nat)) (K:Cv),(match setsM l K with
 | .inl K2=>K2.out=K.out/\K2.evs=K.evs
 | .inr K2=>K2.out=K.out/\K2.evs=K.evs/\K2.last=K.last/\K2.side=K.side)
 |[],K=>⟨rfl,rfl⟩
 |x::l,K=>by
  unfold setsM;cases hb:badS K x with
  |true=>exact⟨rfl,rfl,rfl,rfl⟩
  |false=>
   have h1:=setsM_keeps l (setS K x);have h2:(setS K x).out=K.out/\(setS K x).evs=K.evs/\(setS K x).last=K.last/\(setS K x).side=K.side:=by
    unfold setS
    split
    · exact⟨rfl,rfl,rfl,rfl⟩
    split
    · exact⟨rfl,rfl,rfl,rfl⟩
    split<;>exact⟨rfl,rfl,rfl,rfl⟩
   rw[h2.1,h2.2.1,h2.2.2.1,h2.2.2.2]at h1;exact h1
theorem met_set (hK:Live n K) (hn:n<=1000000) (hl:K.list=none) (h5:K.greeted=true\/f&&& 1=0) (ho:opn 4 f s p= .ok j) (ha:j.ack=false) (hp:p.length<=16384) (hf:f<=255) (hs:s<=2147483647):Met n K 4 f s p:=by
 obtain⟨hv,hd⟩:=opn_sets ho;have h4:=opn_sets4 ho;have he:=hK.out;have h6:∀E r a b c,SetOk (mkC {K with greeted:=true} E r a b c):=λE r a b c=>⟨hK.nd,hK.oth,λx hx=>(hK.str x hx).outw⟩;cases hr:setsM j.sets {K with greeted:=true}with
 |inl K2=>
  have h7:Live n K2:=setsM_live j.sets _ hK.greets h4 K2 hr;have h3:=setsM_keeps j.sets {K with greeted:=true};rw[hr]at h3;refine met_takes (K1:={K2 with out:=K2.out++frameB 4 1 0 []}) (new:=[{kind:=7}]) (h7.puts (by decide)) (tame_one (Nat.zero_le _)) λE r a b c h8=>?_;refine gen_take (M:=mkC K E r a b c) hl (h5.imp id λh=>⟨rfl,h⟩) _ 155 (λb=>#[.pointer (some ⟨b,0,none⟩)]) (λ_=>#[]) ho (by decide) hp (by decide) hf hs (λ_ _=>rfl) enter_settings λw W ow b9 g L sv dv h2 hF hE hc hb h9 h0 _=>?_;obtain⟨A,c9,rfl,_,_⟩:=h0.form;have h1:=settings_anyS W ow b9 (mkC {K with greeted:=true} E r a b c) L j A c9 dv (.int .i64 (p.length:Nat)) hc ha (SetR.of_own h0) (λad e=>h2 _ (h0.lt _ (by rw[e];rfl)).1) hv (by omega) (h6 E r a b c) h4 hE (show K.out.length<=_ by omega) (show E.length<=_ by omega);obtain⟨a2,b2,c2,e2⟩:=setsM_mk j.sets {K with greeted:=true} E r a b c;rw[hr]at e2;rw[e2]at h1;exact h1.mono λe w' hp=>(CPost.trans hF hp).s ⟨_,a2,b2,c2,rfl,List.map_append ..⟩
 |inr K2=>
  have h3:=setsM_keeps j.sets {K with greeted:=true};rw[hr]at h3;refine met_dies hK hn 3 (by decide) λE r a b c h8=>?_;obtain⟨a2,b2,c2,e2⟩:=setsM_mk j.sets {K with greeted:=true} E r a b c;rw[hr]at e2;refine⟨λM'=>∃q,M'={mkC K2 E r a2 b2 c2 with strs:=q},gen_giveS (M:=mkC K E r a b c) hl (h5.imp id λh=>⟨rfl,h⟩) _ 3 0 155 (λb=>#[.pointer (some ⟨b,0,none⟩)]) (λ_=>#[]) ho (by decide) hp (by decide) hf hs (λ_ _=>rfl) enter_settings λw W ow b9 g L sv dv h2 hF hE hc hb h9 h0 _=>?_,λM1 hm=>?_⟩
  · obtain⟨A,c9,rfl,_,_⟩:=h0.form
    have h1:=settings_anyS W ow b9 (mkC {K with greeted:=true} E r a b c) L j A c9 dv (.int .i64 (p.length:Nat)) hc ha (SetR.of_own h0) (λad e=>h2 _ (h0.lt _ (by rw[e];rfl)).1) hv (by omega) (h6 E r a b c) h4 hE (show K.out.length<=_ by omega) (show E.length<=_ by omega);rw[e2]at h1;exact h1.mono λe w' hp=>PPostS.trans hF hp
  · obtain⟨q,rfl⟩:=hm
    exact⟨h3.1,h3.2.2.1,h3.2.2.2,rfl⟩
theorem Live.shuts (h:Live n K) {si:Sv} (hm:si∈K.strs) (c sz:Nat):Live (n+1) (shutM K si c sz):=by
 have h1:=h.leaves (x:=frameB 3 0 si.id (be c 4)) hm (by rw[frameB_len,be_len];omega);have h2:=h1.inw;exact{h1 with
  inw:=(by
   have h2:0<=K.inw+(si.held:Int)/\K.inw+(si.held:Int)+heldS (K.strs.filter λz=>z.id != si.id)=65535:=h2;show 0<=K.inw-(sz:Int)+(si.held:Int)+(sz:Int)/\K.inw-(sz:Int)+(si.held:Int)+(sz:Int)+heldS (K.strs.filter λz=>z.id != si.id)=65535;omega)
  out:=by
   have:=h.out;have:=gvB_len 0 si.held;have:=gvB_len 0 sz;show(((K.out++frameB 3 0 si.id (be c 4))++gvB 0 si.held)++gvB 0 sz).length<=_;simp only[List.length_append,frameB_len,be_len];omega}
theorem Live.datas (h:Live n K) {si:Sv} (hm:si∈K.strs) (ho1:si.other=1) (sz:Nat) (l:List UInt8) (fin:Bool) (hl:l.length<=sz) (hle:(sz:Int)<=K.inw) (hw:(sz:Int)<=si.inw\/sz=0):Live (n+1) {K with inw:=K.inw-sz+((sz-l.length:Nat):Int),strs:=updS K.strs (dataS si sz l.length fin),out:=dataOG K si (sz-l.length) fin}:=by
 have h0:=h.str si hm;have h1:=h0.inw;have h2:=h0.low;have hid:(dataS si sz l.length fin).id=si.id:=by cases fin<;>rfl
 have h5:(dataS si sz l.length fin).held=si.held+l.length:=by cases fin<;>rfl
 have h6:StrOk K.window K.others K.acked (dataS si sz l.length fin):=by
  cases fin
  · refine⟨h0.own,h0.waits,h0.trails,h0.other,?_,?_,λha=>?_,h0.outw⟩
    · show si.inw-(sz:Int)+((sz-l.length:Nat):Int)+((si.held+l.length:Nat):Int)<=K.window
      omega
    · show -65535<=si.inw-(sz:Int)+((sz-l.length:Nat):Int)
      omega
    · have:=h0.low0 ha
      show 0<=si.inw-(sz:Int)+((sz-l.length:Nat):Int);omega
  · refine⟨h0.own,h0.waits,h0.trails,.inr rfl,?_,?_,λha=>?_,h0.outw⟩
    · show si.inw-(sz:Int)+((si.held+l.length:Nat):Int)<=K.window
      omega
    · show -65535<=si.inw-(sz:Int)
      omega
    · have:=h0.low0 ha
      show 0<=si.inw-(sz:Int);omega
 have e:dataOG K si (sz-l.length) fin=K.out++(gvB 0 (sz-l.length)++(if fin=true then[]else gvB si.id (sz-l.length))):=by
  unfold dataOG;rw[List.append_assoc]
 rw[e];refine h.turns hm hid h6 ?_ ?_
 · rw[h5]
   have:=h.inw;omega
 · have h3:=gvB_len 0 (sz-l.length)
   have h4:=gvB_len si.id (sz-l.length);rw[List.length_append]
   split
   · simp;omega
   · omega
theorem met_data (hK:Live n K) (hn:n<=1000000) (hl:K.list=none) (hg:K.greeted=true) (ho:opn 0 f s p= .ok j) (hp:p.length<=16384) (hf:f<=255) (hs:s<=2147483647):Met n K 0 f s p:=by
 have h4:=(opn_typ ho).2.1;have hH:=opn_zero ho rfl;have hj:=opn_len0 ho;have hI:=hK.out;have hq:=hK.inw;have hJ:=heldS_nonneg K.strs;cases hk:knownB K s with
 |false=>exact met_dies hK hn 1 (by decide) λE r a b c _=>⟨_,gen_give (M:=mkC K E r a b c) hl hg 1 0 148 (λb=>#[.pointer (some ⟨b,0,none⟩)]) (λ_=>#[]) ho (by decide) hp (by decide) hf hs (λ_ _=>rfl) enter_cdata λW ow b9 g L sv dv _ hc hb _=>data_idle W ow b9 (mkC K E r a b c) L j sv dv _ hc (by rw[h4];exact hk),λM1 hm=>by subst hm;exact⟨rfl,rfl,rfl,rfl⟩⟩
 |true=>
  by_cases hu:K.inw<(p.length:Int)
  · exact met_dies hK hn 3 (by decide) λE r a b c _=>⟨_,gen_give (M:=mkC K E r a b c) hl hg 3 0 148 (λb=>#[.pointer (some ⟨b,0,none⟩)]) (λ_=>#[]) ho (by decide) hp (by decide) hf hs (λ_ _=>rfl) enter_cdata λW ow b9 g L sv dv hE hc hb _=>data_flow W ow b9 (mkC K E r a b c) L j sv dv p.length hc hE (by rw[h4];exact hk) (by rw[h4];exact hs) (by omega) hu,λM1 hm=>by subst hm;exact⟨rfl,rfl,rfl,rfl⟩⟩
  have h6:(p.length:Int)<=K.inw:=by omega
  cases h7:strAt K (s:Int)with
  |none=>
   refine met_takes (K1:={K with out:=K.out++gvB 0 p.length}) (new:=[]) (hK.puts (by have:=gvB_len 0 p.length;omega)) tame_nil λE r a b c h9=>?_;refine gen_take (M:=mkC K E r a b c) hl (.inl hg) _ 148 (λb=>#[.pointer (some ⟨b,0,none⟩)]) (λ_=>#[]) ho (by decide) hp (by decide) hf hs (λ_ _=>rfl) enter_cdata λw W ow b9 g L sv dv h5 hF _ hc hb he _ _=>?_;rw[greet_same (M:=mkC K E r a b c) hg]at hc;exact(data_gone W ow b9 (mkC K E r a b c) L j sv dv p.length hc (by rw[h4];exact hk) (by rw[h4];exact h7) (by rw[h4];exact hs) (.inl h6) (by omega) (show 0<=K.inw/\K.inw<=65535 by omega) (show K.out.length<=_ by omega)).mono λe w' hp=>(hp.trans hF).s ⟨E,a,b,c,rfl,(List.append_nil _).symm⟩
  |some si=>
   obtain⟨hid,h2⟩:=hK.at h7;have hh:=hK.held h2;have h0:=hK.str si h2;have hw:=hK.win;have hL:=h0.inw;have hD:=h0.low;have hsz:(p.length:Int)<=16384:=by omega
   by_cases h3:si.other=3
   · refine met_takes (K1:=shutM K si 5 p.length) (new:=[{kind:=4,stream:=si.id,code:=5}]) (hK.shuts h2 5 p.length) (tame_one (Nat.zero_le _)) λE r a b c h9=>?_
     refine gen_take (M:=mkC K E r a b c) hl (.inl hg) _ 148 (λb=>#[.pointer (some ⟨b,0,none⟩)]) (λ_=>#[]) ho (by decide) hp (by decide) hf hs (λ_ _=>rfl) enter_cdata λw W ow b9 g L sv dv h5 hF hE hc hb he _ _=>?_;rw[greet_same (M:=mkC K E r a b c) hg]at hc;exact(data_shut W ow b9 (mkC K E r a b c) L si j sv dv p.length hc hE (by rw[h4];exact hid.symm) (hK.known h2) (by rw[hid];exact h7) (by omega) hK.nd (.inl h6) (by omega) hq.1 hh.2 (show K.out.length<=_ by omega) (show E.length<=_ by omega) h3).mono λe w' hp=>(hp.trans hF).s ⟨_,a,b,c,rfl,List.map_append ..⟩
   have h1:si.other=1:=h0.other.resolve_right h3;by_cases hA:0<p.length/\si.inw<(p.length:Int)
   · refine met_takes (K1:=shutM K si 3 p.length) (new:=[{kind:=4,stream:=si.id,code:=3}]) (hK.shuts h2 3 p.length) (tame_one (Nat.zero_le _)) λE r a b c h9=>?_
     refine gen_take (M:=mkC K E r a b c) hl (.inl hg) _ 148 (λb=>#[.pointer (some ⟨b,0,none⟩)]) (λ_=>#[]) ho (by decide) hp (by decide) hf hs (λ_ _=>rfl) enter_cdata λw W ow b9 g L sv dv h5 hF hE hc hb he _ _=>?_;rw[greet_same (M:=mkC K E r a b c) hg]at hc;exact(data_over W ow b9 (mkC K E r a b c) L si j sv dv p.length hc hE (by rw[h4];exact hid.symm) (hK.known h2) (by rw[hid];exact h7) (by omega) hK.nd (.inl h6) (by omega) hq.1 hh.2 (show K.out.length<=_ by omega) (show E.length<=_ by omega) ⟨h1,hA⟩).mono λe w' hp=>(hp.trans hF).s ⟨_,a,b,c,rfl,List.map_append ..⟩
   have ht:(p.length:Int)<=si.inw\/p.length=0:=by omega
   refine met_takes (K1:={K with inw:=K.inw-p.length+((p.length-j.data.length:Nat):Int),strs:=updS K.strs (dataS si p.length j.data.length j.endd),out:=dataOG K si (p.length-j.data.length) j.endd}) (new:=if 0<j.data.length\/j.endd=true then[({kind:=2,stream:=si.id,fin:=j.endd,by_:=j.data}:EvV)]else[]) (hK.datas h2 h1 p.length j.data j.endd hj h6 ht) (by split;exact tame_one (Nat.zero_le _);exact tame_nil) λE r a b c h9=>?_;refine gen_take (M:=mkC K E r a b c) hl (.inl hg) _ 148 (λb=>#[.pointer (some ⟨b,0,none⟩)]) (λ_=>#[]) ho (by decide) hp (by decide) hf hs (λ_ _=>rfl) enter_cdata λw W ow b9 g L sv dv h5 hF hE hc hb he _ hd=>?_;rw[greet_same (M:=mkC K E r a b c) hg]at hc;obtain⟨A,c9,rfl,hi,_,hC⟩:=hd.form;refine(data_okW w ow W ow b9 (mkC K E r a b c) L si j sv A j.data.length c9 p.length (p.length-j.data.length) j.data hF hc (hK.known h2) (by rw[hid];exact h7) (by rw[h4];exact hid.symm) h1 (by rw[h0.own];decide) (by omega) hK.nd hC (λhG ad e=>?_) hi hj (by omega) rfl ⟨h6,show K.inw<=65535 by omega⟩ ⟨ht,by omega,by omega⟩ (by omega) (show K.out.length<=_ by omega) (show E.length<=_ by omega)).mono λe w' hp=>?_
   · rcases hd.2 with⟨e9,h0⟩|⟨g9,cap,cur,e9,hM,_⟩
     · have h0:j.data.length=0:=h0
       omega
     · have h8:=hd.lt (g:=ad.block) (by rw[e];rfl)
       exact⟨h5 _ h8.2,h8.2,UF.ow hd (by rw[e];rfl)⟩
   · obtain⟨M',rfl,hp⟩:=hp
     refine⟨_,⟨dataE (mkC K E r a b c) si j.data j.endd A c9,a,b,c,rfl,?_⟩,hp⟩;unfold dataE
     split
     · exact List.map_append ..
     · exact(List.append_nil _).symm
end
end Go.Proofs.YtkpppjhbmnfmkaaGreatDoor
end
