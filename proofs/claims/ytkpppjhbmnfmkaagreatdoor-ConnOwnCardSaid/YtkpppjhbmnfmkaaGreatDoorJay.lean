/-
  
  
-/
import Derived.Test.YtkpppjhbmnfmkaaGreatDoorJax
import Derived.Test.YtkpppjhbmnfmkaaGreatDoorJas
import Derived.Test.YtkpppjhbmnfmkaaGreatDoorJar
import Derived.Test.YtkpppjhbmnfmkaaGreatDoorJap
import Derived.Test.YtkpppjhbmnfmkaaGreatDoorJak
set_option linter.unusedSimpArgs false
set_option linter.unusedVariables false
section
namespace Go.Proofs.YtkpppjhbmnfmkaaGreatDoor
open Go.RowKit Go.Own Go.Own.Im Go.Own.Cx
section
variable {w w':World} {ow:Nat->Tg} {b:Nat} {M:Cv} {L:Lay}
theorem CN.decs (h:CN w ow b M L) {X:Nat->Prop} (hb:Bar X w.heap.size w w') (hX:∀j,X j->ow j= .dec) {H':HpM} (he:H'.et=M.hp.et/\H'.asked=M.hp.asked/\H'.least=M.hp.least) (hd:DecS w' (λg=>ow g= .dec) L.dec H'):
 CN w' ow b {M with hp:=H'} L/\Fr w ow w' ow:=by
 have k:Kp (λx=>x= .dec) w ow w' ow:=⟨hb.size,λg hn ht h0=>⟨hb.block g h0 λhx=>ht (hX g hx),rfl⟩⟩;have h6:=h.blkK k (by decide);have h5:EncS w' (λg=>ow g= .enc) L.enc H':=by
  obtain⟨tb,h1,h2,h3,h4⟩:=h.p.encK k (by decide);exact⟨tb,by rw[he.2.2,he.2.1];exact h1,h2,by rw[he.2.2];exact h3,by rw[he.1];exact h4⟩
 exact⟨⟨h6.1,h6.2,⟨h.p.fedK k (by decide),h.p.outK k (by decide),h.p.evK k (by decide) (by decide),(h.p.inwK k (by decide)).1,(h.p.inwK k (by decide)).2,(h.p.outwK k (by decide)).1,(h.p.outwK k (by decide)).2,(h.p.mapK k (by decide)).1,(h.p.mapK k (by decide)).2,
  λs hs=>h.p.strK k s hs (by intro j;simp),h.p.lstK k (by decide) (by decide),h5,hd⟩,λg hg=>h.new g (Nat.le_trans hb.size hg)⟩,
  ⟨hb.os,hb.tape,hb.output,hb.size,λg h0 h7=>hb.block g h0 λhx=>by have:=hX g hx;rw[h7]at this;exact Tg.noConfusion this,λ_ _ h=>h⟩⟩
structure EnvD (w:World) (ow:Nat->Tg):Prop where
 hp:HpE w
 no:∀g,g<20->ow g= .no
theorem EnvD.fr {ow':Nat->Tg} (h:EnvD w ow) (f:Fr w ow w' ow'):EnvD w' ow':=
 ⟨h.hp.keep f.size λg hg=>f.keep g (by have:=h.hp.room;omega) (h.no g hg),λg hg=>f.no g (by have:=h.hp.room;omega) (h.no g hg)⟩
def _root_.Go.Own.Cx.HpM.turned (H:HpM) (t:Hk.TM):HpM:={H with dt:=t}
def _root_.Go.Own.Cx.HpM.lost (H:HpM) (t:Hk.TM):HpM:={H with dt:=t,dgone:=true}
def DcnPost (ow:Nat->Tg) (b:Nat) (M:Cv) (L:Lay) (l:List UInt8) (w:World) (e:Ending) (w':World):Prop:=
 (∃hs t' A' c',Hk.decP M.hp.dt l=some (hs,t')/\e= .returned (.tuple #[.slice A' hs.length c',.nilIface])/\hs.length<=c'/\Cm.RS hdrC 3 w' w'.heap.size A' hs.length hs/\(0<hs.length->∀ad,A'=some ad->w.heap.size<=ad.block)/\hszs hs<=16384/\CN w' ow b {M with hp:=M.hp.turned t'} L/\Fr w ow w' ow/\Bar (λj=>ow j= .dec) w.heap.size w w')\/
 (Hk.decP M.hp.dt l=none/\∃a t',e= .returned (.tuple #[.slice none 0 0,ev a])/\CN w' ow b {M with hp:=M.hp.lost t'} L/\Fr w ow w' ow/\Bar (λj=>ow j= .dec) w.heap.size w w')
theorem decode_cn (h:CN w ow b M L) (hE:EnvD w ow) (hg:M.hp.dgone=false) (A:Option Addr) (n c B0:Nat) (l:List UInt8) (hr:Rd w B0 A n l) (hB:B0<=w.heap.size) (hc:n<=c) (hn:n<=1000000)
 (hk:0<n->∀ad,A=some ad->ow ad.block≠ .dec):Calls Tryz.prog 194 #[.pointer (some ⟨L.dec,0,none⟩),.slice A n c] w (DcnPost ow b M L l w):=by
 obtain⟨tb,hd,hi,hl⟩:=h.p.dec;obtain⟨r,h9,hf,hh,ho,hq⟩:=hl.ring;rw[hg]at hd;have hX:∀j,TX tb r j\/j=L.dec->ow j= .dec:=λj hj=>by
  rcases hj with(hj|hj)|hj
  · rw[hj];exact hf
  · rw[hj];exact hh
  · rw[hj];exact hi
 have hm:∀j,ow j= .dec->20<=j:=λj hj=>by
  rcases Nat.lt_or_ge j 20 with h1|h1
  · rw[hE.no j h1]at hj;cases hj
  · exact h1
 have ht:¬TX tb r L.dec:=by
  rintro(e|e)
  · obtain⟨_,_,hb,_⟩:=h9
    exact blk_ne hd hb (by decide) e
  · obtain⟨_,_,_,hb,_⟩:=h9
    exact blk_ne hd hb (by decide) e
 refine(decodeA_any w L.dec tb r M.hp.dt A n c B0 l ⟨hd,h9,ho,hq⟩ hr hB hc hn (λh0 ad ha hx=>hk h0 ad ha (hX _ (.inl hx))) ⟨hd.lt,h9.lt.1,h9.lt.2⟩ ht ⟨hm _ hf,hm _ hh⟩ hE.hp).mono ?_;intro e w' hp;rcases hp with⟨hs,t',A',c',h1,h2,h3,h4,h5,h6,h7,h8⟩|⟨h1,a,E,m,h2,h3,h4,h5,h6,h7⟩
 · have hb:Bar (λj=>ow j= .dec) w.heap.size w w':=h8.weaken λj hj=>hX j (.inl hj)
   have he:=h.decs (H':=M.hp.turned t') hb (λj h=>h) ⟨rfl,rfl,rfl⟩ ⟨tb,by show Blk w' L.dec _ #[_,_,.bool M.hp.dgone];rw[hg];exact h7.dec,hi,h7.tab.tabS hf hh h7.sz h7.mo⟩;exact .inl ⟨hs,t',A',c',h1,h2,h3,h4,h5,h6,he.1,he.2,hb⟩
 · have hb:Bar (λj=>ow j= .dec) w.heap.size w w':=h7.weaken λj hj=>hX j hj
   have he:=h.decs (H':=M.hp.lost ⟨E,m⟩) hb (λj h=>h) ⟨rfl,rfl,rfl⟩ ⟨tb,h3,hi,h4.tabS hf hh h5 h6⟩;exact .inr ⟨h1,a,⟨E,m⟩,h2,he.1,he.2,hb⟩
end
end Go.Proofs.YtkpppjhbmnfmkaaGreatDoor
end

section
set_option maxHeartbeats 8000000
set_option maxRecDepth 100000
namespace Go.Own.Hk
open Go.Own
theorem add_sz (t:TM) (h:Hd.HdrV) (hs:hzs t.E<=t.most):hzs (t.add h).E<=(t.add h).most:=by
 unfold TM.add
 split
 · simp[hzs]
 · have:=shrink_le (t.most-hz h) t.E
   show hzs (shrink _ _++[off h])<=t.most;rw[hzs_append,hzs_cons,hz_off];simp[hzs]at*
   omega
theorem encOne_sz (t:TM) (h:Hd.HdrV) (hs:hzs t.E<=t.most):hzs (encOne t h).2.E<=(encOne t h).2.most:=by
 unfold encOne;simp only
 split
 · exact hs
 · split
   · exact hs
   · split
     · exact hs
     · exact add_sz t h hs
theorem encP_sz:∀(l:List Hd.HdrV) (t:TM),hzs t.E<=t.most->hzs (encP t l).2.E<=(encP t l).2.most
 |[],t,h=>h
 |x::l,t,h=>by
  rw[encP];exact encP_sz l _ (encOne_sz t x h)
end Go.Own.Hk
namespace Go.Proofs.YtkpppjhbmnfmkaaGreatDoor
open Go.RowKit Go.Own Go.Own.Im Go.Own.Cx Go.Own.Fr
attribute [local go_sem] Oper.semAt_some
def _root_.Go.Own.Cx.HpM.encd (H:HpM) (t:Hk.TM):HpM:={H with et:=t}
section
variable {w w':World} {ow:Nat->Tg} {b:Nat} {M:Cv} {L:Lay}
def EcnPost (ow:Nat->Tg) (b:Nat) (M:Cv) (L:Lay) (bl:List UInt8) (t:Hk.TM) (w:World) (e:Ending) (w':World):Prop:=
 ∃A' c',e= .returned (.slice A' bl.length c')/\Ow w' w.heap.size 5 (.slice A' bl.length c') bl.length bl/\CN w' ow b {M with hp:=M.hp.encd t} L/\Fr w ow w' ow/\Bar (λj=>ow j= .enc) w.heap.size w w'
theorem encode_cn (h:CN w ow b M L) (hE:EnvD w ow) (h1:M.hp.asked=false) (A:Option Addr) (c:Nat) (hs:List Hd.HdrV) (hr:Cm.RS hdrC 3 w w.heap.size A hs.length hs) (hA:∀ad,A=some ad->ow ad.block≠ .enc) (hz:hszs hs<=1000000):
 Calls Tryz.prog 96 #[.pointer (some ⟨L.enc,0,none⟩),.slice A hs.length c] w (EcnPost ow b M L (Hk.encP M.hp.et hs).1 (Hk.encP M.hp.et hs).2 w):=by
 obtain⟨tb,h2,h6,h7,h8⟩:=h.p.enc;obtain⟨r,ht,h3,h4,hsz,hm⟩:=h8.ring;rw[h1]at h2;have hX:∀j,TX tb r j->ow j= .enc:=λj hj=>by
  rcases hj with hj|hj
  · rw[hj];exact h3
  · rw[hj];exact h4
 have hne:¬TX tb r L.enc:=by
  rintro(e|e)
  · obtain⟨_,_,hb,_⟩:=ht
    exact blk_ne h2 hb (by decide) e
  · obtain⟨_,_,_,hb,_⟩:=ht
    exact blk_ne h2 hb (by decide) e
 refine(encA_any w L.enc tb r M.hp.least M.hp.et A c hs h2 ht hm hne hE.hp (λg hg hx=>by have:=hX g hx;rw[hE.no g hg]at this;cases this) hr (λad ha hx=>hA ad ha (hX _ hx)) hz).mono ?_;rintro e w' ⟨v,rfl,h0⟩;obtain⟨A',c',rfl,_⟩:=h0.own.form;have hb:Bar (λj=>ow j= .enc) w.heap.size w w':=h0.bar.weaken hX;have h5:=h.encs (H':=M.hp.encd (Hk.encP M.hp.et hs).2) hb (λj h=>h) ⟨rfl,rfl⟩ ⟨tb,by show Blk w' L.enc _ #[_,_,.bool M.hp.asked];rw[h1];exact h0.enc,h6,h7,h0.tab.tabS h3 h4 (Hk.encP_sz hs _ hsz) h0.mo⟩;exact⟨A',c',rfl,h0.own,h5.1,h5.2,hb⟩
end
theorem headsA_any (w:World) (ow:Nat->Tg) (b:Nat) (M:Cv) (L:Lay) (id c:Nat) (fin:Bool) (A:Option Addr) (hs:List Hd.HdrV) (h:CN w ow b M L) (hE:EnvD w ow) (hb:M.hp.asked=false) (hr:Cm.RS hdrC 3 w w.heap.size A hs.length hs) (hA:∀ad,A=some ad->ow ad.block≠ .enc) (hz:hszs hs<=16384) (h0:id≠0) (hid:id<=2147483647) (ho:M.out.length<=1000000000):
 Calls Tryz.prog 60 #[.pointer (some ⟨b,0,none⟩),.int .i64 (id:Nat),.slice A hs.length c,.bool fin] w (CPostL w ow b L {M with hp:=M.hp.encd (Hk.encP M.hp.et hs).2,out:=M.out++frameB 1 (hfl fin) id (Hk.encP M.hp.et hs).1} (.tuple #[])):=by
 have hc:=Hk.encP_len M.hp.et hs;have hd:(Hk.encP M.hp.et hs).1.length<=16384:=Nat.le_trans hc hz;have h6:=encode_cn h hE hb A c hs hr hA (by omega);have c21:w.cell? ⟨b,21,none⟩=some (.pointer (some ⟨L.enc,0,none⟩)):=h.blk.cell 21;generalize (Hk.encP M.hp.et hs).1=bl at*
 generalize (Hk.encP M.hp.et hs).2=t' at*
 have h6:=Lib.hid h6;have HH:=Lib.hid (show _/\_/\_/\_ from⟨hd,h0,hid,ho⟩);obtain⟨k,hk⟩:∃k,hs.length=k:=⟨_,rfl⟩;rw[hk]at h6 ⊢;clear h hr hA hz h0 hid ho hc hd hE hk;go_enter Tryz.func60,Tryz.ntmps60;go_wp2_with fail;refine h6.out.mono ?_;rintro e w1 ⟨A1,c1,rfl,he,h5,hf,_⟩;have HC:=Lib.hid h5;have hl:=Lib.hid hf;obtain⟨_,_,e1,h8,_,h7⟩:=he.form;injection e1 with e2 _ e3
 subst e2 e3;obtain⟨n,hn⟩:∃n,bl.length=n:=⟨_,rfl⟩;rw[hn]at h7 h8 ⊢;obtain⟨A2,h9,hi⟩:=cut_head (P:=Tryz.prog) (t:=22) byteP h7 (n:Int) rfl (Nat.le_refl _) h8;rw[List.take_of_length_le (Nat.le_of_eq h7.1)]at h9;obtain⟨A3,hh⟩:∃A3,(if c1=n then A1 else A1.map λy=>y.add n)=A3:=⟨_,rfl⟩;have hj:∀W,(Instr.slice 22 (.slice A1 n c1) (some (.int .i64 (n:Int))) none none).run Tryz.prog W= .ok (.slice A3 0 (c1-n)) W:=λW=>by
  have:=run_from (P:=Tryz.prog) (t:=22) byteP A1 n c1 n (Nat.le_refl _) h8 W;rw[hh,Nat.sub_self]at this;exact this
 have HP:=put_anyL w1 ow b _ L _ _ HC.out rfl (bld_heads w1 id fin true A2 n c1 w1.heap.size bl h9 (Nat.le_refl _) (by have:=HH.out.1;omega) HH.out.2.1 HH.out.2.2.1) HH.out.2.2.2;rw[infC_heads,flg_hfl]at HP;have HP:=Lib.hid HP;have hm:min (n:Int) 16384=(n:Int):=by have:=HH.out.1;omega
 clear h7 he h5 hf c21 h9 hh;go_wp2_with fail;refine HP.out.mono ?_;intro e w3 hp;obtain rfl:=hp.cp.ret;have HQ:=Lib.hid hp;clear hp;go_upto_region 4 with fail;go_loopw [8] (λbv wr=>bv= .slice A3 0 (c1-n)/\wr=w3) (λ_ _=>0)
 case atStart=>exact⟨rfl,rfl⟩
 case round=>
  obtain⟨rfl,rfl⟩:=hrel;go_wp2;go_end0;obtain⟨ow',L',h1,h2,h3,h4⟩:=HQ.out;exact⟨ow',L',h1,h2,hl.out.trans h3,h4⟩
end Go.Proofs.YtkpppjhbmnfmkaaGreatDoor
end
