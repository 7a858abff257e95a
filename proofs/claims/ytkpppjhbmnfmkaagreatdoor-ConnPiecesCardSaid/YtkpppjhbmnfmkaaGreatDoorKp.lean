import Derived.Test.YtkpppjhbmnfmkaaGreatDoorJas
import Derived.Test.YtkpppjhbmnfmkaaGreatDoorJap
set_option linter.unusedSimpArgs false
set_option linter.unusedVariables false
namespace Go.Proofs.YtkpppjhbmnfmkaaGreatDoor
open Go.RowKit Go.Own Go.Own.Im Go.Own.Cx
section
variable {w w':World} {ow:Nat->Tg} {b:Nat} {M:Cv} {L:Lay}
theorem CN.decs (h:CN w ow b M L) {X:Nat->Prop} (hb:Bar X w.heap.size w w') (hX:∀j,X j->ow j= .dec) {H':HpM} (he:H'.et=M.hp.et/\H'.asked=M.hp.asked/\H'.least=M.hp.least) (hd:DecS w' (λg=>ow g= .dec) L.dec H'):
 CN w' ow b {M with hp:=H'} L/\Fr w ow w' ow:=by
 have k:Kp (λx=>x= .dec) w ow w' ow:=⟨hb.size,λg hn ht h0=>⟨hb.block g h0 λhx=>ht (hX g hx),rfl⟩⟩;have h6:=h.blkK k (by decide);have h5:EncS w' (λg=>ow g= .enc) L.enc H':=by
  obtain⟨tb,h1,h2,h3,h4⟩:=h.p.encK k (by decide);exact⟨tb,by rw[he.2.2,he.2.1];exact h1,h2,by rw[he.2.2];exact h3,by rw[he.1];exact h4⟩
 exact⟨⟨h6.1,h6.2,⟨h.p.fedK k (by decide),h.p.outK k (by decide),h.p.evK k (by decide) (by decide),(h.p.inwK k (by decide)).1,(h.p.inwK k (by decide)).2,(h.p.outwK k (by decide)).1,(h.p.outwK k (by decide)).2,(h.p.mapK k (by decide)).1,(h.p.mapK k (by decide)).2,
  λs hs=>h.p.strK k s hs (by intro j;simp),h.p.lstK k (by decide) (by decide),h5,hd⟩,λg hg=>h.new g (Nat.le_trans hb.size hg)⟩,
  ⟨hb.os,hb.tape,hb.output,hb.size,λg h0 h7=>hb.block g h0 λhx=>by have:=hX g hx;rw[h7]at this;exact Tg.noConfusion this,λ_ _ h=>h⟩⟩
structure EnvD (w:World) (ow:Nat->Tg):Prop where
 hp:HpE w
 no:∀g,g<20->ow g= .no
theorem EnvD.fr {ow':Nat->Tg} (h:EnvD w ow) (f:Fr w ow w' ow'):EnvD w' ow':=
 ⟨h.hp.keep f.size λg hg=>f.keep g (by have:=h.hp.room;omega) (h.no g hg),λg hg=>f.no g (by have:=h.hp.room;omega) (h.no g hg)⟩
def _root_.Go.Own.Cx.HpM.turned (H:HpM) (t:Hk.TM):HpM:={H with dt:=t}
def _root_.Go.Own.Cx.HpM.lost (H:HpM) (t:Hk.TM):HpM:={H with dt:=t,dgone:=true}
def DcnPost (ow:Nat->Tg) (b:Nat) (M:Cv) (L:Lay) (l:List UInt8) (w:World) (e:Ending) (w':World):Prop:=
 (∃hs t' A' c',Hk.decP M.hp.dt l=some (hs,t')/\e= .returned (.tuple #[.slice A' hs.length c',.nilIface])/\hs.length<=c'/\Cm.RS hdrC 3 w' w'.heap.size A' hs.length hs/\(0<hs.length->∀ad,A'=some ad->w.heap.size<=ad.block)/\hszs hs<=16384/\CN w' ow b {M with hp:=M.hp.turned t'} L/\Fr w ow w' ow/\Bar (λj=>ow j= .dec) w.heap.size w w')\/
 (Hk.decP M.hp.dt l=none/\∃a t',e= .returned (.tuple #[.slice none 0 0,ev a])/\CN w' ow b {M with hp:=M.hp.lost t'} L/\Fr w ow w' ow/\Bar (λj=>ow j= .dec) w.heap.size w w')
theorem decode_cn (h:CN w ow b M L) (hE:EnvD w ow) (hg:M.hp.dgone=false) (A:Option Addr) (n c B0:Nat) (l:List UInt8) (hr:Rd w B0 A n l) (hB:B0<=w.heap.size) (hc:n<=c) (hn:n<=1000000)
 (hk:0<n->∀ad,A=some ad->ow ad.block≠ .dec):Calls Tryz.prog 194 #[.pointer (some ⟨L.dec,0,none⟩),.slice A n c] w (DcnPost ow b M L l w):=by
 obtain⟨tb,hd,hi,hl⟩:=h.p.dec;obtain⟨r,h9,hf,hh,ho,hq⟩:=hl.ring;rw[hg]at hd;have hX:∀j,TX tb r j\/j=L.dec->ow j= .dec:=λj hj=>by
  rcases hj with(hj|hj)|hj
  · rw[hj];exact hf
  · rw[hj];exact hh
  · rw[hj];exact hi
 have hm:∀j,ow j= .dec->20<=j:=λj hj=>by
  rcases Nat.lt_or_ge j 20 with h1|h1
  · rw[hE.no j h1]at hj;cases hj
  · exact h1
 have ht:¬TX tb r L.dec:=by
  rintro(e|e)
  · obtain⟨_,_,hb,_⟩:=h9
    exact blk_ne hd hb (by decide) e
  · obtain⟨_,_,_,hb,_⟩:=h9
    exact blk_ne hd hb (by decide) e
 refine(decodeA_any w L.dec tb r M.hp.dt A n c B0 l ⟨hd,h9,ho,hq⟩ hr hB hc hn (λh0 ad ha hx=>hk h0 ad ha (hX _ (.inl hx))) ⟨hd.lt,h9.lt.1,h9.lt.2⟩ ht ⟨hm _ hf,hm _ hh⟩ hE.hp).mono ?_;intro e w' hp;rcases hp with⟨hs,t',A',c',h1,h2,h3,h4,h5,h6,h7,h8⟩|⟨h1,a,E,m,h2,h3,h4,h5,h6,h7⟩
 · have hb:Bar (λj=>ow j= .dec) w.heap.size w w':=h8.weaken λj hj=>hX j (.inl hj)
   have he:=h.decs (H':=M.hp.turned t') hb (λj h=>h) ⟨rfl,rfl,rfl⟩ ⟨tb,by show Blk w' L.dec _ #[_,_,.bool M.hp.dgone];rw[hg];exact h7.dec,hi,h7.tab.tabS hf hh h7.sz h7.mo⟩;exact .inl ⟨hs,t',A',c',h1,h2,h3,h4,h5,h6,he.1,he.2,hb⟩
 · have hb:Bar (λj=>ow j= .dec) w.heap.size w w':=h7.weaken λj hj=>hX j hj
   have he:=h.decs (H':=M.hp.lost ⟨E,m⟩) hb (λj h=>h) ⟨rfl,rfl,rfl⟩ ⟨tb,h3,hi,h4.tabS hf hh h5 h6⟩;exact .inr ⟨h1,a,⟨E,m⟩,h2,he.1,he.2,hb⟩
end
end Go.Proofs.YtkpppjhbmnfmkaaGreatDoor
