import Derived.Test.YtkpppjhbmnfmkaaGreatDoorAl
import Derived.Test.YtkpppjhbmnfmkaaGreatDoorJak
import Derived.Deep.RegionLaw
set_option linter.unusedSimpArgs false
set_option linter.unusedVariables false
set_option maxHeartbeats 16000000
set_option maxRecDepth 100000
namespace Go.Proofs.YtkpppjhbmnfmkaaGreatDoor
open Lib (hid)
open Go.RowKit Go.Own Go.Own.Im Go.Own.Cx Go.Own.Fr Go.Own.Hd
theorem own_big (w:World) (hW:EnvW w) (A:Option Addr) (n c:Nat) (A2:Option Addr) (m c2:Nat) (h:8000<n\/20<m):
 Calls Tryz.prog 6 #[.slice A n c,.slice A2 m c2] w λe w'=>e= .returned (.bool true)/\Below w.heap.size w w':=by
 have HF:=hid (first_any w hW);have k:((8000:Int)<(n:Int))=True\/(((8000:Int)<(n:Int))=False/\((20:Int)<(m:Int))=True):=by
  simp only[eq_iff_iff,iff_true,iff_false];omega
 clear h hW;rcases k with k0|⟨k0,k1⟩
 all_goals
  go_enter Tryz.func6,Tryz.ntmps6;go_wp2_with fail;refine HF.out.mono ?_;rintro e w1 ⟨rfl,h0⟩;have h1:=hid h0;clear h0;go_wp2_with fail;go_ret;exact⟨rfl,h1.out⟩
theorem hs_small {l:List HdrV} {m:Nat} (hm:l.length=m) (h20:m<=20) (h:∀x∈l,x.name.size<=300/\x.value.size<=300):hszs (hs3++l)<=16384:=by
 have h1:∀l:List HdrV,(∀x∈l,x.name.size<=300/\x.value.size<=300)->hszs l<=632*l.length:=by
  intro l
  induction l with
  |nil=>intro _;simp[hszs]
  |cons x l ih=>
   intro h;have h2:=ih λy hy=>h y (by simp[hy]);have h3:=h x (by simp);rw[hszs_cons',List.length_cons];unfold hsz;omega
 have h2:=h1 l h;have e:hszs (hs3++l)=hszs hs3+hszs l:=Hk.hzs_append hs3 l;have e3:hszs hs3=124:=by decide
 rw[e,e3];omega
theorem WC.same {w w':World} {A:Option Addr} {k n:Nat} (h:WC w A k n) (hh:∀ad,A=some ad->w'.heap[ad.block]?=w.heap[ad.block]?):WC w' A k n:=λj hj=>by
 obtain⟨ad,v,h1,h2,h3⟩:=h j hj;have e:=hh ad h1;exact⟨ad,v,h1,(World.cell?_of_block (a:=ad.add (j*k)) (by rw[add_block];exact e)).trans h2,(World.frozen?_of_block (a:=ad.add (j*k)) (by rw[add_block];exact e)).trans h3⟩
theorem duo_new {w w2 w3:World} {oc os:Nat->Tg} {bc bs:Nat} {Mc Ms:Cv} {Lc Ls:Lay} (h0:Below w.heap.size w w2) (hc:CN w2 oc bc Mc Lc) (ho:∀g,g<w.heap.size->oc g= .no) (hs:CN w3 os bs Ms Ls) (hb:Below w2.heap.size w2 w3) (h2:∀g,g<w2.heap.size->os g= .no):Duo w w3 oc bc Mc Lc os bs Ms Ls:=
 ⟨hc.below hb,hs,λg hg=>by
   rcases Nat.lt_or_ge g w2.heap.size with h1|h1
   · exact absurd (h2 g h1) hg
   · exact hc.new g h1,λg hg=>⟨ho g hg,h2 g (Nat.lt_of_lt_of_le hg h0.size)⟩,h0.trans (hb.mono h0.size)⟩
theorem err_same (a:Addr) (W:World):(binOp .eql 28 (.iface 327 (.pointer (some a))) (.iface 327 (.pointer (some a)))).run Tryz.prog W= .ok (.bool true) W:=by
 obtain⟨j,hj,h1⟩:=Option.map_eq_some_iff.1 (show(Tryz.prog.info? 329).map (·.size)=some 1 by kernel_rfl);obtain⟨i,hi,h0⟩:=Option.map_eq_some_iff.1 (show(Tryz.prog.info? 327).map (·.comparable)=some true by kernel_rfl)
 simpa using run_eql_iface_ptr_same (P:=Tryz.prog) W a Tryz.underlying28 Tryz.underlying327 hi h0 hj
theorem hw_rsO {w:World} {base n c:Nat} {A:Option Addr} {l:List HdrV} (h:H6.Hw w base (.slice A n c) l):Cm.RS hdrC 3 w w.heap.size A n l/\(∀ad,A=some ad->base<=ad.block)/\n<=c/\n=l.length:=by
 have h1:Cm.Ew hdrC 63 3 w base (.slice A n c) l:=by
  have h0:w.ownsRow base 63 3 (.slice A n c) l.length (H6.hcells l):=h;rw[hcells_flat]at h0;exact h0
 obtain⟨A',c',e,hl,_⟩:=h1.form;injection e with e1 e2 e3
 subst e1 e3;exact⟨h1.rs (λ_=>rfl) (by decide),h1.from,by rw[e2];exact hl,e2⟩
theorem grown_set (w:World) (p:Addr) (v:Value):w.grownBy (w.setCell p v) (some p.block):=
 ⟨rfl,rfl,rfl,by simp[World.setCell],λi _ hne=>Below.heap_setCell w p v i (λe=>hne (by rw[e]))⟩
def oS1:Sv:={id:=1,own:=1,inw:=65535,outw:=65535}
def ownB (bl p:List UInt8):List UInt8:=prefB++(frameB 4 0 0 (setB sets3)++(frameB 1 4 1 bl++frameB 0 1 1 p))
theorem own_snd (ls:List HdrV) (p:List UInt8) (n:Nat) (hp:p.length=n) (hn:n<=8000) (hz:hszs ls<=16384) (M6 M8:Cv) (h6:opcA (newM 1 65535 0) false ls=M6) (h8:{M6 with strs:=updS M6.strs (sentS oS1 p true)}=M8):
 ∃bl t',bl.length<=16384/\Hk.decP {} bl=some (ls,t')/\Snd 1 M8 (pM M8 (sentS oS1 p true) n [⟨0,1,1,p⟩])/\(pM M8 (sentS oS1 p true) n [⟨0,1,1,p⟩]).out=ownB bl p/\24<(ownB bl p).length/\(ownB bl p).length<=100000:=by
 subst h6 h8;have hl:=Hk.encP_len {} ls;have h0:(Hk.encP {} ls).1.length<=16384:=Nat.le_trans hl hz;refine⟨(Hk.encP {} ls).1,(Hk.encP {} ls).2,h0,Hk.there_back {} ls ⟨λh hh=>(by cases hh),(by simp[Hk.hzs]),(by decide)⟩ hz,?_,?_,?_,?_⟩
 · exact snd_whole n _ (sentS oS1 p true) hp ⟨rfl,rfl,(by show 0<1/\1<=2147483647;decide),rfl,rfl,rfl,(by show(0:Nat)≠3;decide)⟩ (by omega) 65535 65535 rfl rfl ⟨by omega,by omega⟩ ⟨by omega,by omega⟩ (by
    show((newM 1 65535 0).out++frameB 1 (hfl false) 1 (Hk.encP {} ls).1).length<=800000000;rw[List.length_append,frameB_len];have:(newM 1 65535 0).out.length=51:=by decide
    omega)
 · show((newM 1 65535 0).out++frameB 1 (hfl false) 1 (Hk.encP {} ls).1)++fmsB [⟨0,1,1,p⟩]=ownB _ p
   have e:(newM 1 65535 0).out=prefB++frameB 4 0 0 (setB sets3):=rfl;rw[e];simp[ownB,fmsB,Fm.b,hfl]
 · unfold ownB
   rw[List.length_append,List.length_append,frameB_len];have:prefB.length=24:=rfl;omega
 · unfold ownB
   rw[List.length_append,List.length_append,List.length_append,frameB_len,frameB_len,frameB_len];have e1:prefB.length=24:=rfl;have e2:(setB sets3).length=18:=by decide
   omega
def evO (ls:List HdrV) (p:List UInt8) (Ah:Option Addr) (ch:Nat) (Ad:Option Addr) (cd:Nat):List EvV:=[{kind:=7},{kind:=1,stream:=1,fin:=false,la:=Ah,lc:=ch,l:=ls},{kind:=2,stream:=1,fin:=true,ba:=Ad,bc:=cd,by_:=p}]
theorem evO_is (ls:List HdrV) (p:List UInt8) (t':Hk.TM) (Ah:Option Addr) (ch:Nat) (Ad:Option Addr) (cd:Nat):(dataMG (doneM oM 1 false ls t' Ah ch) oS p.length p true Ad cd).evs=evO ls p Ah ch Ad cd:=by
 show(if 0<p.length\/true=true then _ else _)=_;rw[if_pos (.inr rfl)]
 rfl
structure EvsO (B0:Nat) (w:World) (go:Nat) (adE:Addr) (ls:List HdrV) (p:List UInt8) (Ah:Option Addr) (ch:Nat) (Ad:Option Addr) (cd:Nat):Prop where
 row:Cm.RS evC 7 w w.heap.size (some adE) 3 (evO ls p Ah ch Ad cd)
 ne:adE.block≠go
 lst:Cm.RS hdrC 3 w w.heap.size Ah ls.length ls
 lne:0<ls.length->∀ad,Ah=some ad->ad.block≠go
 byt:Rd w w.heap.size Ad p.length p
 bne:0<p.length->∀ad,Ad=some ad->ad.block≠go/\UF w ad.block/\B0<=ad.block
theorem EvsO.grown {B0:Nat} {w w':World} {go:Nat} {adE:Addr} {ls:List HdrV} {p:List UInt8} {Ah:Option Addr} {ch:Nat} {Ad:Option Addr} {cd:Nat} (h:EvsO B0 w go adE ls p Ah ch Ad cd) (hg:w.grownBy w' (some go)):EvsO B0 w' go adE ls p Ah ch Ad cd:=by
 have hb:∀g,g<w.heap.size->g≠go->w'.heap[g]?=w.heap[g]?:=λg hl hn=>hg.block g hl (λe=>hn (by injection e));refine⟨(h.row.keep hg.size λad e _ hl=>hb _ hl (by injection e with e;rw[<-e];exact h.ne)).more hg.size,h.ne,?_,h.lne,⟨h.byt.1,λhp=>?_⟩,λhp ad e=>?_⟩
 · rcases Nat.eq_zero_or_pos ls.length with h0|h0
   · have:ls=[]:=List.eq_nil_of_length_eq_zero h0
     subst this;exact⟨rfl,λj x hx=>by simp at hx⟩
   · exact(h.lst.keep hg.size λad e _ hl=>hb _ hl (h.lne h0 ad e)).more hg.size
 · obtain⟨ad,e,hl,hc⟩:=h.byt.2 hp
   exact⟨ad,e,Nat.lt_of_lt_of_le hl hg.size,λj hj=>(World.cell?_of_block (a:=ad.add j) (by rw[add_block];exact hb _ hl (h.bne hp ad e).1)).trans (hc j hj)⟩
 · obtain⟨ad2,e2,hl,_⟩:=h.byt.2 hp
   rw[e]at e2;injection e2 with e2
   subst e2;exact⟨(h.bne hp ad e).1,(h.bne hp ad e).2.1.same (hb _ hl (h.bne hp ad e).1),(h.bne hp ad e).2.2⟩
theorem own_evs {B0:Nat} {w9 w10:World} {os os10:Nat->Tg} {go:Nat} {adE:Addr} {ls:List HdrV} {p:List UInt8} {Ah:Option Addr} {ch:Nat} {Ad:Option Addr} {cd:Nat} (hB0:B0<=w9.heap.size) (h0:∀g,g<B0->os g= .no) (h5:os go= .no) (hlt:go<w9.heap.size)
 (hrs:Cm.RS evC 7 w10 w10.heap.size (some adE) 3 (evO ls p Ah ch Ad cd)) (ht:∀ad,some adE=some ad->os ad.block= .no->w9.heap.size<=ad.block) (h3:∀x∈evO ls p Ah ch Ad cd,EvR w10 os10 x/\EvN w9 os x):EvsO B0 w10 go adE ls p Ah ch Ad cd:=by
 obtain⟨h1,h6⟩:=h3 {kind:=1,stream:=1,fin:=false,la:=Ah,lc:=ch,l:=ls} (by simp[evO]);obtain⟨h2,h4⟩:=h3 {kind:=2,stream:=1,fin:=true,ba:=Ad,bc:=cd,by_:=p} (by simp[evO]);have key:∀g,(os g= .no->w9.heap.size<=g)->g≠go:=λg h e=>by
  subst e;have:=h h5;omega
 exact⟨hrs,key _ (ht adE rfl),h1.lst.2.1,λhp ad e=>key _ (h6.lst hp ad e),h2.byt.2.1,λhp ad e=>⟨key _ (h4.byt hp ad e),(h2.byt.2.2 hp ad e).2,by
  rcases Nat.lt_or_ge ad.block B0 with h|h
  · have:=h4.byt hp ad e (h0 _ h)
    omega
  · exact h⟩⟩
def toldO (i:Nat) (p:List UInt8):List UInt8:=if i=3 then p else[]
structure OwL (w wr:World) (i:Nat) (p:List UInt8) (v:Value) (wx:World):Prop where
 own:Ow wx wr.heap.size 5 v (toldO i p).length (toldO i p)
 bel:i<3->Below wr.heap.size wr wx
 b:Below w.heap.size w wx
theorem evO_at {ls:List HdrV} {p:List UInt8} {Ah:Option Addr} {ch:Nat} {Ad:Option Addr} {cd i:Nat} {x:EvV} (hx:(evO ls p Ah ch Ad cd)[i]?=some x):
 toldO (i+1) p=toldO i p++x.by_/\((¬x.kind=1/\decide (2<=i+1)=decide (2<=i))\/(x.kind=1/\i=1/\x.la=Ah/\x.l=ls/\x.lc=ch)):=by
 have h3:i<3:=(List.getElem?_eq_some_iff.1 hx).1;have h:i=0\/i=1\/i=2:=by omega
 rcases h with rfl|rfl|rfl
 · simp[evO]at hx;subst hx;exact⟨rfl,.inl ⟨(by show¬(7:Nat)=1;decide),rfl⟩⟩
 · simp[evO]at hx;subst hx;exact⟨rfl,.inr ⟨rfl,rfl,rfl,rfl,rfl⟩⟩
 · simp[evO]at hx;subst hx;exact⟨rfl,.inl ⟨(by show¬(2:Nat)=1;decide),rfl⟩⟩
theorem EvsO.bytes {B0 go:Nat} {w:World} {adE:Addr} {ls:List HdrV} {p:List UInt8} {Ah:Option Addr} {ch:Nat} {Ad:Option Addr} {cd i:Nat} {x:EvV} (h:EvsO B0 w go adE ls p Ah ch Ad cd) (hx:(evO ls p Ah ch Ad cd)[i]?=some x):
 Rd w w.heap.size x.ba x.by_.length x.by_/\(0<x.by_.length->i=2/\∀ad,x.ba=some ad->UF w ad.block/\B0<=ad.block):=by
 have h3:i<3:=(List.getElem?_eq_some_iff.1 hx).1;have h4:i=0\/i=1\/i=2:=by omega
 rcases h4 with rfl|rfl|rfl
 · simp[evO]at hx;subst hx;exact⟨rd_nilA _ _ _,λh=>absurd h (Nat.lt_irrefl _)⟩
 · simp[evO]at hx;subst hx;exact⟨rd_nilA _ _ _,λh=>absurd h (Nat.lt_irrefl _)⟩
 · simp[evO]at hx;subst hx;exact⟨h.byt,λhp=>⟨rfl,λad e=>(h.bne hp ad e).2⟩⟩
theorem told_len {ls:List HdrV} {p:List UInt8} {Ah:Option Addr} {ch:Nat} {Ad:Option Addr} {cd i n:Nat} {x:EvV} (hx:(evO ls p Ah ch Ad cd)[i]?=some x) (hp:p.length=n) (hn:n<=8000):(toldO i p).length<=8000/\x.by_.length<=8000:=by
 have h3:i<3:=(List.getElem?_eq_some_iff.1 hx).1;refine⟨by unfold toldO;rw[if_neg (by omega)];exact Nat.zero_le _,?_⟩;have h4:i=0\/i=1\/i=2:=by omega
 rcases h4 with rfl|rfl|rfl
 · simp[evO]at hx;subst hx;exact Nat.zero_le _
 · simp[evO]at hx;subst hx;exact Nat.zero_le _
 · simp[evO]at hx;subst hx;show p.length<=8000;omega
theorem gB_facts {B0:Nat} {w:World} {i:Nat} {x:EvV} {gB:Option Nat} (hb:Rd w w.heap.size x.ba x.by_.length x.by_/\(0<x.by_.length->i=2/\∀ad,x.ba=some ad->UF w ad.block/\B0<=ad.block)) (hg:gB=(if 0<x.by_.length then x.ba.map (·.block)else none)):
 (∀g,gB=some g->B0<=g/\g<w.heap.size)/\(i<2->gB=none)/\(0<x.by_.length->∀ad,x.ba=some ad->gB=some ad.block):=by
 rcases Nat.eq_zero_or_pos x.by_.length with h0|h0
 · rw[if_neg (by omega)]at hg
   exact⟨λg e=>(by rw[hg]at e;cases e),λ_=>hg,λh=>by omega⟩
 · rw[if_pos h0]at hg
   obtain⟨ad,e,h1,_⟩:=hb.1.2 h0;obtain⟨hi,h2⟩:=hb.2 h0;rw[e]at hg;refine⟨λg eg=>?_,λh=>by omega,λ_ ad2 e2=>?_⟩
   · rw[hg]at eg
     injection eg with eg
     rw[<-eg];exact⟨(h2 ad e).2,h1⟩
   · rw[e]at e2
     injection e2 with e2
     rw[hg,e2];rfl
structure InO (wA wy:World) (adE:Addr) (i:Nat) (x:EvV) (nq:Nat) (gB:Option Nat):Prop where
 wc:WC wy x.ba 1 nq
 row:wy.cell? ⟨(adE.add (i*7)).block,(adE.add (i*7)).off+6,none⟩=some (.slice x.ba nq x.bc)
 ne:∀ad,x.ba=some ad->∀k,k<nq->ad.add k≠⟨(adE.add (i*7)).block,(adE.add (i*7)).off+6,none⟩
 gb:0<nq->∀ad,x.ba=some ad->gB=some ad.block
 gr:wA.grownBy wy gB
theorem InO.set {wA wy:World} {adE ad:Addr} {i nq k:Nat} {x:EvV} {gB:Option Nat} (h:InO wA wy adE i x nq gB) (e:x.ba=some ad) (hk:k<nq) (u:Value):InO wA (wy.setCell (ad.add k) u) adE i x nq gB:=by
 refine⟨h.wc.set _ _,(World.cell?_setCell_other _ _ _ _ (h.ne ad e k hk)).trans h.row,h.ne,h.gb,h.gr.trans ?_⟩;have h9:=grown_set wy (ad.add k) u;rw[add_block,<-h.gb (by omega) ad e]at h9;exact h9
theorem InO.start {B0 go:Nat} {w wA:World} {adE:Addr} {ls:List HdrV} {p:List UInt8} {Ah:Option Addr} {ch:Nat} {Ad:Option Addr} {cd i:Nat} {x:EvV} {gB:Option Nat} (hb:Below w.heap.size w wA) (hE:EvsO B0 w go adE ls p Ah ch Ad cd) (hx:(evO ls p Ah ch Ad cd)[i]?=some x) (hg:0<x.by_.length->∀ad,x.ba=some ad->gB=some ad.block):InO wA wA adE i x x.by_.length gB:=by
 have hy:=hE.bytes hx;have hr:=hy.1.below hb;obtain⟨_,_,_,_,_,_,a6⟩:=ev_all (hE.row.below hb) hx;refine⟨?_,a6,λad e k hk e2=>?_,hg,World.grownBy.refl _ _⟩
 · rcases Nat.eq_zero_or_pos x.by_.length with h0|h0
   · rw[h0];exactλj hj=>absurd hj (Nat.not_lt_zero _)
   · obtain⟨ad2,e2,h2,_⟩:=hy.1.2 h0
     exact WC.of_rd hr λad e=>((hy.2 h0).2 ad e).1.same (hb.block _ (by rw[e]at e2;injection e2 with e2;rw[e2];exact h2))
 · obtain⟨ad2,e3,_,hc⟩:=hr.2 (by omega)
   rw[e]at e3;injection e3 with e3
   subst e3;have h1:=hc k hk;rw[e2,a6]at h1;cases h1
theorem OwL.next {w wr w3 wy:World} {i:Nat} {p q:List UInt8} {A3:Option Addr} {c3 m:Nat} {gB:Option Nat} {P:Prop} (hB:Below w.heap.size w wr) (h3:Below wr.heap.size wr w3) (ho:Ow w3 wr.heap.size 5 (.slice A3 m c3) m q) (hg:w3.grownBy wy gB)
 (h0:(∀g,gB=some g->w.heap.size<=g/\g<wr.heap.size)/\(i<2->gB=none)/\P) (ht:toldO (i+1) p=q):OwL w wr (i+1) p (.slice A3 m c3) wy:=by
 have hl:=ho.len;refine⟨?_,λhi=>?_,?_⟩
 · rw[ht,hl]
   refine ho.grown hg ?_;cases h4:(Value.slice A3 m c3).ownBlock with
   |none=>exact .inl rfl
   |some g=>exact .inr (λe=>by
     have h1:=(ho.lt h4).2;have h2:=(h0.1 g e.symm).2;omega)
 · have h9:=h0.2.1 (by omega)
   subst h9;exact h3.grown hg h3.size (λg e=>by cases e)
 · have h1:Below w.heap.size w w3:=hB.trans (h3.mono hB.size)
   exact h1.grown hg h1.size (λg e=>(h0.1 g e).1)
theorem dec_next (i:Nat):Value.bool (decide (1<=i))=Value.bool (decide (2<=i+1)):=by
 by_cases h:1<=i
 · rw[decide_eq_true h,decide_eq_true (by omega)]
 · rw[decide_eq_false h,decide_eq_false (by omega)]
section
variable {ops:Array Oper} {o:Oper} {a:Act} {Q:Exit->Act->World->Prop} {K:Act->World->Prop} {E:Prop}
theorem step_app_hg (w:World) (h3:o.guard=none) (s x:Operand) (ho:o.op= .call {callee:=.builtin .append,args:=#[s,x],argTypes:=#[41,41]})
 (base:Nat) (v:Value) (l0:List HdrV) (hs:a.eval s=v) (h1:H6.Hw w base v l0) (A:Option Addr) (n c:Nat) (l:List HdrV) (hx:a.eval x= .slice A n c) (hr:H6.Hr w A n l) (hb:l0.length+n<=1000) (h0:base<=w.heap.size)
 (h:∀v' w',H6.Hw w' base v' (l0++l)->w.grownBy w' v.ownBlock->(v'.ownBlock=v.ownBlock\/v'.ownBlock=some w.heap.size)->K (a.put o.dst v') w'):
 if Region.wanted o (yielded ops a.tmps)=true then Oper.wp Tryz.prog o a w K Q else E:=by
 have hw:Region.wanted o (yielded ops a.tmps)=true:=by simp[Region.wanted,h3]
 rw[if_pos hw];obtain⟨v',w',h2,r1,r2,r3⟩:=H6.run_app_hg w o.type base v l0 h1 A n c l hr hb h0;unfold Oper.wp execOp;simp only[ho,resolve,invoke,builtin,Sem.run_bind,Sem.run_pure,Result.andThen_ok,List.map_toArray,List.map_cons,List.map_nil,hs,hx,h2];exact h v' w' r1 r2 r3
end
theorem own_small (w:World) (hW:EnvW w) (A:Option Addr) (n c:Nat) (p:List UInt8) (hp:Rd w w.heap.size A n p) (hn:n<=8000) (A2:Option Addr) (m c2:Nat) (l:List HdrV) (hl:H6.Hr w A2 m l) (hm:m<=20):
 Calls Tryz.prog 6 #[.slice A n c,.slice A2 m c2] w λe w'=>e= .returned (.bool true)/\Below w.heap.size w w':=by
 have HF:=hid (first_any w hW);have HW:=hid hW;have HP:=hid hp;have HL:=hid hl;have HH:=hid (show _/\_ from⟨hn,hm⟩);have k0:((8000:Int)<(n:Int))=False:=by simp;omega
 have k1:((20:Int)<(m:Int))=False:=by simp;omega
 have hE:=hid (show l.length=m from hl.1);clear hW hp hl hn hm;go_enter Tryz.func6,Tryz.ntmps6;go_wp2_with fail;refine HF.out.mono ?_;rintro e w1 ⟨rfl,g3⟩;have H8:=hid g3;have Gh:=hid (HL.out.below g3);clear g3;go_upto_region 5 with fail;go_loop [6] (λt6=>∃j:Nat,t6= .int .i64 (j:Nat)/\j<=m/\Hid (∀x∈l.take j,x.name.size<=300/\x.value.size<=300)) (λt6=>m-toI t6)
 case atStart=>exact⟨0,rfl,Nat.zero_le _,hid (λx hx=>by simp at hx)⟩
 case round=>
  obtain⟨j,rfl,gt,hs⟩:=hrel;have hR:=HH.out.2;by_cases h5:j<m
  · have Gi:(j:Int)<(m:Int):=by omega
    have i0:(0:Int)<=(j:Int):=by omega
    obtain⟨x,hx⟩:∃x,l[j]?=some x:=⟨_,List.getElem?_eq_getElem (by rw[hE.out];exact h5)⟩;obtain⟨ad,rfl,a0,a1,_⟩:=Gh.out.at_ (k:=j) h5;have gu:l.getD j ⟨⟨#[]⟩,⟨#[]⟩,false⟩=x:=by rw[List.getD,hx];rfl
    rw[gu]at a0 a1;have HX:=hid hx;have h4:=hid (show j+1<=m/\m-(j+1)<m-j from⟨by omega,by omega⟩);have ej:=zs4 j (by have:=HH.out.2;omega);clear hx gu gt h5 hR;by_cases g4:300<x.name.size
    · have q1:((300:Int)<(x.name.size:Int))=True:=by simp;omega
      clear g4;go_wp2_with fail;go_ret;exact⟨rfl,H8.out⟩
    · have q1:((300:Int)<(x.name.size:Int))=False:=by simp;omega
      by_cases gv:300<x.value.size
      · have q2:((300:Int)<(x.value.size:Int))=True:=by simp;omega
        clear g4 gv;go_wp2_with fail;go_ret;exact⟨rfl,H8.out⟩
      · have q2:((300:Int)<(x.value.size:Int))=False:=by simp;omega
        have gw:=hid (show∀y∈l.take (j+1),y.name.size<=300/\y.value.size<=300 fromλy hy=>by
         rw[List.take_add_one,HX.out]at hy;rcases List.mem_append.1 hy with hy|hy
         · exact hs.out y hy
         · have:y=x:=by simpa using hy
           subst this;exact⟨by omega,by omega⟩)
        clear g4 gv;go_wp2_with fail;first
         |exact⟨⟨j+1,rfl,h4.out.1,gw⟩,h4.out.2⟩
         |(rw[ej];exact⟨⟨j+1,rfl,h4.out.1,gw⟩,h4.out.2⟩)
  · have Gi:¬(j:Int)<(m:Int):=by omega
    obtain rfl:j=m:=by omega
    have Gj:=hid (show∀x∈l,x.name.size<=300/\x.value.size<=300 by have h9:=hs.out;rw[<-hE.out,List.take_length]at h9;exact h9);clear hs h5 gt;have HZ:=hid (hs_small hE.out hR Gj.out);clear hR;go_wp2_with fail;refine(new1_any w1 65535 0 (by decide) (by decide)).mono ?_;rintro e w2 ⟨bc,oc,Lc,rfl,gx,gy,gz⟩;have gA:=hid gx;have gC:=hid (H8.out.trans (gy.mono H8.out.size));have gD:=hid (show∀g,g<w.heap.size->oc g= .no fromλg hg=>gz g (Nat.lt_of_lt_of_le hg H8.out.size));clear gx gy gz;go_wp2_with fail;refine(new2_any w2 65535 10 (by decide) (by decide)).mono ?_;rintro e w3 ⟨bs,os,Ls,rfl,gE,gF,H9⟩;have Ha:=hid (duo_new gC.out gA.out gD.out gE gF H9);clear gE gF H9 gA gC gD;go_wp2_with fail;refine(postH_any w3).mono ?_;rintro e w4 ⟨rfl,Hb,H0⟩;have g5:=hid (Ha.out.below H0);have HD:=hid Hb;have gG:=hid (HL.out.below g5.out.b);have Hm:=hid H0.size;have H1:=hid (show∀g,w3.heap.size<=g->oc g= .no/\os g= .no/\w.heap.size<=g fromλg hg=>⟨Ha.out.c.new g hg,Ha.out.s.new g hg,Nat.le_trans Ha.out.b.size hg⟩);clear Hb H0 Ha;go_wp2_with (first
     |(at_builtin
       refine H6.wpList_app_hg _ rfl (.tmp 76) (.tmp 77) rfl w3.heap.size (.slice (some ⟨w3.heap.size,0,none⟩) 3 3) hs3 rfl HD.out A2 j c2 l rfl gG.out (by have:=HH.out.2;show 3+j<=1000;omega) Hm.out ?_;intro v5 w5 g6 gH _;obtain⟨A5,c5,gI,hS,_⟩:=g6.form;obtain⟨N,hN⟩:∃N,(hs3++l).length=N:=⟨_,rfl⟩;rw[hN]at gI hS;have hH:=hid hN;clear hN;subst gI;have gJ:=hid g6;have g8:=hid hS;have hO:=hid (g5.out.user gH (H1.out _ (Nat.le_refl _)).2.2 (H1.out _ (Nat.le_refl _)).1 (H1.out _ (Nat.le_refl _)).2.1);clear g6 gH hS)
     |fail)
    generalize Hc:hs3++l=ls at*
    have g9:=hid Hc;clear Hc;have hF:=gJ.out;have hi:=hw_rsO hF;have ga:=hid hi.1;have gK:=hid (WC.of_hw hF);have hA:=hid (show∀ad,A5=some ad->oc ad.block= .no/\os ad.block= .no/\w.heap.size<=ad.block/\ad.block<w5.heap.size fromλad e=>⟨(H1.out _ (hi.2.1 ad e)).1,(H1.out _ (hi.2.1 ad e)).2.1,(H1.out _ (hi.2.1 ad e)).2.2,(hF.lt ad.block (by rw[e];rfl)).2⟩);clear hF hi HD gG Hm g5;have gb:=hid (HW.out.of hO.out.b (λg hg=>(hO.out.old g hg).1));cases He:openS rules4 ls req0 with
    |none=>
     obtain⟨e1,e2,e3,HE⟩:=gb.out.env;have hd:=copenA_bad w5 oc bc (newM 1 65535 0) Lc A5 c5 ls false HE hO.out.c rfl rfl rfl rfl (show((0:Nat):Int)<2147483647 by decide) (show 1<=2147483647 by decide) (by rw[hH.out];exact ga.out) (by rw[hH.out];exact g8.out) HZ.out He;rw[hH.out]at hd;have HG:=hid hd;have hs:=err_same e1;have Gk:=hid HE.head;have Gl:=hid (World.block_lt_of_cell? w5 _ HE.head);clear He hd HE;go_wp2_with fail;refine HG.out.mono ?_;rintro e w6 ⟨rfl,hC⟩;have Hg:=hid (hO.out.below hC);have g0:w6.cell? ⟨0,0,none⟩=some (.iface 327 (.pointer (some e1))):=(World.cell?_of_block (hC.block _ Gl.out)).trans Gk.out;clear hC;go_wp2_with fail;go_ret;exact⟨rfl,Hg.out.b⟩
    |some rq=>
     have Hn:0<ls.length:=by rw[<-g9.out];simp[hs3]
     have hd:=copenA_ok w5 oc bc (newM 1 65535 0) Lc A5 c5 ls false gb.out hO.out.c rfl rfl rfl rfl (show((0:Nat):Int)<2147483647 by decide) (show 1<=2147483647 by decide) (λs hs=>by cases hs) List.nodup_nil (show(0:Int)<=65535/\(65535:Int)<=2147483647 by decide) (show(0:Int)<=65535/\(65535:Int)<=2147483647 by decide) (Nat.zero_le _) (show(newM 1 65535 0).out.length<=1000000000 by decide) (by rw[hH.out];exact ga.out) (λad e=>(hA.out ad e).1) (λad e=>(hA.out ad e).2.2.2) rfl (by rw[hH.out];exact g8.out) HZ.out (by rw[He];rfl);rw[hH.out,show((nxt (newM 1 65535 0):Nat):Int)=1 from rfl]at hd;have HG:=hid hd;have Gm:=hid (show(openS rules4 ls req0).isSome=true by rw[He];rfl);have go:=hid Hn;clear He hd Hn;go_wp2_with fail;refine HG.out.mono ?_;intro e w6 hp;obtain rfl:=hp.ret;obtain⟨oc6,Lc6,_,gL,HK⟩:=hp;have Hg:=hid (hO.out.cstep gL HK);have Gn:=hid (show∀ad,A5=some ad->oc6 ad.block= .no/\os ad.block= .no/\w.heap.size<=ad.block fromλad e=>⟨HK.no _ (hA.out ad e).2.2.2 (hA.out ad e).1,(hA.out ad e).2.1,(hA.out ad e).2.2.1⟩);have Ho:=hid (gK.out.same λad e=>HK.keep _ (hA.out ad e).2.2.2 (hA.out ad e).1);have Hp:=hid (show N<=23 by rw[<-hH.out,<-g9.out,List.length_append,hE.out];have:=HH.out.2;show 3+_<=23;omega);clear gL HK HG gb hO ga gK hA g8 gJ;go_upto_region 18 with fail;obtain⟨M6,gc⟩:∃M,opcA (newM 1 65535 0) false ls=M:=⟨_,rfl⟩;rw[gc]at Hg;have gd:=hid gc;clear gc;go_loopw [14] (λt14 wr=>∃i:Nat,t14= .int .i64 (i:Nat)/\i<=N/\Hid (WC wr A5 3 N/\Duo w wr oc6 bc M6 Lc6 os bs (newM 2 65535 10) Ls)) (λt14 _=>N-toI t14)
     case atStart=>exact⟨0,rfl,Nat.zero_le _,hid ⟨Ho.out,Hg.out⟩⟩
     case round=>
      obtain⟨i,rfl,hI,hh⟩:=hrel;by_cases h5:i<N
      · have hP:(i:Int)<(N:Int):=by omega
        have i0:(0:Int)<=(i:Int):=by omega
        obtain⟨ad,v,rfl,x0,f0⟩:=hh.out.1 i h5;have h4:=hid (show i+1<=N/\N-(i+1)<N-i from⟨by omega,by omega⟩);have ei:=zs4 i (by have:=Hp.out;omega);have HN:=Gn.out ad rfl;have hf:=hid (show WC (wr.setCell (ad.add (i*3)) (.string ⟨#[115,112,111,105,108,116]⟩)) (some ad) 3 N/\Duo w (wr.setCell (ad.add (i*3)) (.string ⟨#[115,112,111,105,108,116]⟩)) oc6 bc M6 Lc6 os bs (newM 2 65535 10) Ls from
         ⟨hh.out.1.set _ _,hh.out.2.user (grown_set wr (ad.add (i*3)) _) (by rw[add_block];exact HN.2.2) (by rw[add_block];exact HN.1) (by rw[add_block];exact HN.2.1)⟩)
        clear hh hI h5 HN;go_wp2_with fail;first
         |exact⟨⟨i+1,rfl,h4.out.1,hf⟩,h4.out.2⟩
         |(rw[ei];exact⟨⟨i+1,rfl,h4.out.1,hf⟩,h4.out.2⟩)
      · have hP:¬(i:Int)<(N:Int):=by omega
        have hc:=hid hh.out.2;clear hh hI h5 Ho Hg;go_wp2_with fail;refine(bytes_any A n c p wr w.heap.size (HP.out.below hc.out.b) hc.out.b.size (by have:=HH.out.1;omega)).mono ?_;rintro e w7 ⟨rfl,ge,gM⟩;have HO:=hid ge;have gf:=hid (hc.out.below gM);have H2:=hid (show oc6 wr.heap.size= .no/\os wr.heap.size= .no/\w.heap.size<=wr.heap.size from⟨hc.out.c.new _ (Nat.le_refl _),hc.out.s.new _ (Nat.le_refl _),hc.out.b.size⟩);have hU:=hid (show 0<n->wr.heap.size<w7.heap.size fromλh0=>by
         obtain⟨ad,e,h1,_⟩:=ge.rd.2 h0;injection e with e
         rw[<-e]at h1;exact h1)
        clear ge gM hc;have ho:=send_ok w7 oc6 bc M6 Lc6 gf.out.c (by rw[<-gd.out];rfl) oS1 1 (by rw[<-gd.out];rfl) rfl (by decide) (some ⟨wr.heap.size,0,none⟩) n n p true HO.out.rd (by have:=HH.out.1;show 0+n<=_;omega);have gN:=hid ho;clear ho;go_wp2_with fail;refine gN.out.mono ?_;intro e w8 hp;obtain rfl:=hp.ret;obtain⟨oc8,Lc8,_,gO,HQ⟩:=hp;have gg:=hid (gf.out.cstep gO HQ);have hV:=hid (show WC w8 (some ⟨wr.heap.size,0,none⟩) 1 n from by
         rcases Nat.eq_zero_or_pos n with h0|h0
         · subst h0;exactλj hj=>absurd hj (Nat.not_lt_zero _)
         · refine(WC.of_rd HO.out.rd (λad e=>UF.ow HO.out (by rw[e];rfl))).same λad e=>?_
           injection e with e
           subst e;exact HQ.keep _ (hU.out h0) H2.out.1)
        have gh:=hid (show 0<n->oc8 wr.heap.size= .no fromλh0=>HQ.no _ (hU.out h0) H2.out.1);obtain⟨M8,gi⟩:∃M,{M6 with strs:=updS M6.strs (sentS oS1 p true)}=M:=⟨_,rfl⟩;rw[gi]at gg;have Gp:=hid gi;obtain⟨g7,H3⟩:∃g,wr.heap.size=g:=⟨_,rfl⟩;rw[H3]at hV gh H2;simp only[H3];clear gi gO HQ gN HO hU gf H3;go_upto_region 25 with fail;go_loopw [16] (λt16 wr=>∃i:Nat,t16= .int .i64 (i:Nat)/\i<=n/\Hid (WC wr (some ⟨g7,0,none⟩) 1 n/\Duo w wr oc8 bc M8 Lc8 os bs (newM 2 65535 10) Ls)) (λt16 _=>n-toI t16)
        case atStart=>exact⟨0,rfl,Nat.zero_le _,hid ⟨hV.out,gg.out⟩⟩
        case round=>
         obtain⟨i,rfl,hI,hh⟩:=hrel;by_cases h5:i<n
         · have hP:(i:Int)<(n:Int):=by omega
           have i0:(0:Int)<=(i:Int):=by omega
           obtain⟨ad,v,e,x0,f0⟩:=hh.out.1 i h5;injection e with e
           subst e;rw[Nat.mul_one]at x0 f0;have h4:=hid (show i+1<=n/\n-(i+1)<n-i from⟨by omega,by omega⟩);have ei:=zs4 i (by have:=HH.out.1;omega);have hf:=hid (show WC (wr.setCell (Addr.add ⟨g7,0,none⟩ i) (.int .u8 238)) (some ⟨g7,0,none⟩) 1 n/\Duo w (wr.setCell (Addr.add ⟨g7,0,none⟩ i) (.int .u8 238)) oc8 bc M8 Lc8 os bs (newM 2 65535 10) Ls from
            ⟨hh.out.1.set _ _,hh.out.2.user (grown_set wr (Addr.add ⟨g7,0,none⟩ i) _) (by rw[add_block];exact H2.out.2.2) (by rw[add_block];exact gh.out (by omega)) (by rw[add_block];exact H2.out.2.1)⟩)
           rw[Addr.add_lit,Nat.zero_add]at x0 f0 hf;clear hh hI h5;go_wp2_with fail;first
            |exact⟨⟨i+1,rfl,h4.out.1,hf⟩,h4.out.2⟩
            |(rw[ei];exact⟨⟨i+1,rfl,h4.out.1,hf⟩,h4.out.2⟩)
         · have hP:¬(i:Int)<(n:Int):=by omega
           have hc:=hid hh.out.2;clear hh hI h5 hV gg gh H2;have gP:p.length=n:=HP.out.1;obtain⟨bl,t',gQ,Hq,ho,Hs,Ht⟩:=own_snd ls p n gP HH.out.1 HZ.out M6 M8 gd.out Gp.out;have gR:=hid (output_sends wr oc8 bc _ _ Lc8 1 hc.out.c ho);have Hh:=hid (show _/\_/\_/\_ from⟨gQ,Hq,Hs,Ht⟩);clear gP gQ Hq ho Hs Ht;go_wp2_with fail;refine gR.out.mono ?_;rintro e w9 ⟨A9,c9,oc9,Lc9,rfl,hX,hD,hG,gS,gT⟩;rw[Hh.out.2.2.1]at hX hD hG ⊢;obtain⟨OB,Hi⟩:∃o,ownB bl p=o:=⟨_,rfl⟩;obtain⟨NB,HR⟩:∃k,OB.length=k:=⟨_,rfl⟩;have gU:=hid Hi;have Hu:24<NB/\NB<=100000:=by rw[<-HR,<-Hi];exact Hh.out.2.2.2
           rw[Hi,HR]at hX hD hG;rw[Hi,HR];have hJ:=hid (hc.out.cstep gS gT);obtain⟨adO,Gq,Hv,_⟩:=hD.2 (by omega);subst Gq;have HS:=hG (by omega) adO rfl;have HT:=hid (show os adO.block= .no/\w.heap.size<=adO.block from by
            refine⟨?_,?_⟩
            · by_cases h:os adO.block= .no
              · exact h
              · exact hc.out.s.new _ (HS.2.2 (hc.out.dis _ h))
            · rcases Nat.lt_or_ge adO.block w.heap.size with h|h
              · have h1:=(hc.out.old _ h).1
                have h2:=HS.2.2 h1;have h3:=hc.out.b.size;omega
              · exact h)
           have Hx:=hid Hv;have gV:=hid (WC.of_rd hD (λad e=>by injection e with e;subst e;exact HS.2.1 (by omega)));have Gr:=hid Hu;have hL:=feed_any w9 os bs (newM 2 65535 10) Ls _ 27 (some adO) NB c9 OB (HW.out.of hJ.out.b (λg hg=>(hJ.out.old g hg).2)) hJ.out.s hD (λ_ ad e=>by injection e with e;subst e;exact HT.out.1) rfl (by show 0+NB<=_;omega) (by rw[<-gU.out];exact runs_own bl p ls t' Hh.out.1 Hh.out.2.1 go.out Gm.out (by have h1:=HP.out.1;have h2:=HH.out.1;omega));have gW:=hid hL;clear hL hX hD hG gS gT Hv HS HR Hi Hu gR hc;go_wp2_with fail;refine gW.out.mono ?_;rintro e w10 ⟨M10,A10,c10,os10,Ls10,gp,rfl,ht,gq,hY,h8,h7,hu⟩;obtain⟨Ah,ch,Ad,cd,rfl⟩:=gp;have Hy:(dataMG (doneM oM 1 false ls t' Ah ch) oS p.length p true Ad cd).evs=evO ls p Ah ch Ad cd:=evO_is ls p t' Ah ch Ad cd;rw[Hy]at ht h8 h7 hu ⊢;rw[show(evO ls p Ah ch Ad cd).length=3 from rfl]at ht h8 h7 ⊢;have he:=hid (hY.toBelow hJ.out.b (λg hg=>(hJ.out.old g hg).2));obtain⟨adE,Gs,_,gs,_⟩:=h8.2 0 _ rfl;subst Gs;have gX:=hid (own_evs hJ.out.b.size (λg hg=>(hJ.out.old g hg).2) HT.out.1 Hx.out h8 (λad e=>(h7 (by decide) ad e).2) hu);have hM:=hid (gV.out.same λad e=>by injection e with e;subst e;exact hY.keep _ Hx.out HT.out.1);clear Hy ht gq hY h8 h7 hu gs gW gV hJ gU Hh;have gY:=Gr.out;go_upto_region 31 with fail;go_loopw [19] (λt19 wr=>∃i:Nat,t19= .int .i64 (i:Nat)/\i<=NB/\Hid (WC wr (some adO) 1 NB/\w10.grownBy wr (some adO.block))) (λt19 _=>NB-toI t19)
           case atStart=>exact⟨0,rfl,Nat.zero_le _,hid ⟨hM.out,World.grownBy.refl _ _⟩⟩
           case round=>
            obtain⟨i,rfl,hI,hh⟩:=hrel;by_cases h5:i<NB
            · have hP:(i:Int)<(NB:Int):=by omega
              have i0:(0:Int)<=(i:Int):=by omega
              obtain⟨ad,v,e,x0,f0⟩:=hh.out.1 i h5;injection e with e
              subst e;have h4:=hid (show i+1<=NB/\NB-(i+1)<NB-i from⟨by omega,by omega⟩);have ei:=zs4 i (by omega);have hf:=hid (show WC (wr.setCell (adO.add (i*1)) (.int .u8 238)) (some adO) 1 NB/\w10.grownBy (wr.setCell (adO.add (i*1)) (.int .u8 238)) (some adO.block)from
               ⟨hh.out.1.set _ _,hh.out.2.trans (by have h9:=grown_set wr (adO.add (i*1)) (.int .u8 238);rw[add_block]at h9;exact h9)⟩)
              rw[Nat.mul_one]at x0 f0 hf;clear hh hI h5 gY;go_wp2_with fail;first
               |exact⟨⟨i+1,rfl,h4.out.1,hf⟩,h4.out.2⟩
               |(rw[ei];exact⟨⟨i+1,rfl,h4.out.1,hf⟩,h4.out.2⟩)
            · have hP:¬(i:Int)<(NB:Int):=by omega
              have HU:=hid (gX.out.grown hh.out.2);have gZ:=hid (show Below w.heap.size w wr from⟨hh.out.2.os.trans he.out.os,hh.out.2.tape.trans he.out.tape,hh.out.2.output.trans he.out.output,Nat.le_trans he.out.size hh.out.2.size,λg hg=>(hh.out.2.block g (Nat.lt_of_lt_of_le hg he.out.size) (λe=>by injection e with e;have:=HT.out.2;omega)).trans (he.out.block g hg)⟩);clear hh hI h5 hM gX he gY;go_upto_region 37 with fail;obtain⟨wv,rfl⟩:∃x,x=wr:=⟨_,rfl⟩;go_loopw [20,21,22] (λt20 t21 t22 wr=>∃i:Nat,t22= .int .i64 (i:Nat)/\i<=3/\t21= .bool (decide (2<=i))/\Hid (OwL w wv i p t20 wr)) (λ_ _ t22 _=>3-toI t22)
              case atStart=>exact⟨0,rfl,by omega,rfl,hid ⟨⟨rfl,.inl ⟨rfl,rfl⟩⟩,λ_=>Below.refl _ _,gZ.out⟩⟩
              case round=>
               obtain⟨i,rfl,G0,rfl,hh⟩:=hrel;by_cases h5:i<3
               · have hP:(i:Int)<3:=by omega
                 have i0:(0:Int)<=(i:Int):=by omega
                 obtain⟨x,hx⟩:∃x,(evO ls p Ah ch Ad cd)[i]?=some x:=⟨_,List.getElem?_eq_getElem h5⟩;have G1:=hx;have H4:=hh.out.bel h5;have gj:=hid H4;have H5:=evO_at hx;have gk:=HU.out.bytes hx;have gl:=hid (gk.1.below H4);have HB:=HU.out.row.below H4;obtain⟨a0,-,-,-,-,a5,a6⟩:=ev_all HB hx;have Hj:=hid (told_len hx HP.out.1 HH.out.1);have gm:=hid H5.1;obtain⟨gB,G2⟩:∃gB:Option Nat,gB=(if 0<x.by_.length then x.ba.map (·.block)else none):=⟨_,rfl⟩;have G3:=hid (gB_facts gk G2);have h6:=hh.out.own;obtain⟨T,hT⟩:∃T,toldO i p=T:=⟨_,rfl⟩;obtain⟨q,hq⟩:∃q,x.by_=q:=⟨_,rfl⟩;obtain⟨nq,HC⟩:∃k,q.length=k:=⟨_,rfl⟩;have Gt:=hid (λ(w3:World) (hb:Below wv.heap.size wv w3)=>(show InO w3 w3 adE i x nq gB by
                  have h9:=InO.start hb HU.out G1 G3.out.2.2;rw[hq,HC]at h9;exact h9))
                 rw[hT]at h6 Hj gm;rw[hq]at Hj gm gl a6;rw[HC]at Hj gl a6;have Gu:=hid hh.out.b;clear gk HB hx G1 hT hq hh G0 G2;have G4:=hid a6;have HI:=hid h5;clear h5;go_upto_region 39 with fail;clear a6;go_cut [145]from 140 to 145 (λv wx=>Hid (v= .bool (decide (x.kind=1))/\wx=wr))
                 case first=>
                  as_aux_lemma=>
                   clear H5 h6;go_wp2_with fail;go_meet;exact hid ⟨by by_cases hk:x.kind=1<;>simp[hk]<;>omega,rfl⟩
                 case rest=>
                  obtain⟨rfl,Gv⟩:=hcut.out;clear hcut;obtain rfl:=Gv.symm;rename_i hK;refine hK _ _ ?_;go_cut [21,145]from 146 to 154 (λt21 t145 wx=>Hid (t21= .bool (decide (2<=i+1))/\Below wr.heap.size wr wx/\∃bk,t145= .bool bk))
                  case first=>
                   rcases H5.2 with⟨hQ,G5⟩|⟨hQ,G6,G7,Hc,G8⟩
                   · as_aux_lemma=>
                     have q1:((x.kind:Int)=1)=False:=by simp;omega
                     have q2:((x.kind:Int)==1)=false:=by simp;omega
                     have q3:(x.kind=1)=False:=by simp;exact hQ
                     have Gw:=hid G5;rw[decide_eq_false hQ];clear hQ G5 H5 h6;go_wp2_with fail;go_meet;exact hid ⟨by rw[Gw.out],Below.refl _ _,_,rfl⟩
                   · as_aux_lemma=>
                     have Gx:=hid G6;rw[decide_eq_true hQ];have q1:((x.kind:Int)=1)=True:=by simp;omega
                     have q2:((x.kind:Int)==1)=true:=by simp;omega
                     have q3:(x.kind=1)=True:=by simp;exact hQ
                     rw[G7,Hc,G8]at a5;have G9:=hid (hr_ofA (HU.out.lst.below H4 |>.more H4.size));clear H5 hQ G6 G7 Hc G8 h6;go_wp2_with fail;have gn:ls.length=N:=hH.out;rw[gn]at a5 G9;have Gy:N<=1000000000:=by have:=Hp.out;omega
                     go_region_law (first
                      |(go_simp
                        go_at_call 28;refine Calls.mono (postH_any _) ?_;rintro q4 w4 ⟨rfl,Hb,H0⟩;have HD:=hid (show H6.Hw w4 wr.heap.size (.slice (some ⟨wr.heap.size,0,none⟩) 3 3) hs3 from Hb);have Hl:=hid (show Below wr.heap.size wr w4 from(Below.refl _ _).drew.trans H0);have b4:w4.cell? ⟨(adE.add (i*7)).block,(adE.add (i*7)).off+5,none⟩=some (.slice Ah N ch):=(World.cell?_of_block (Hl.out.block _ (World.block_lt_of_cell? wr _ a5))).trans a5;clear Hb H0)
                      |(refine step_app_hg _ (by rfl) (.tmp 151) (.tmp 152) (by rfl) wr.heap.size (.slice (some ⟨wr.heap.size,0,none⟩) 3 3) hs3 (by rfl) HD.out A2 j c2 l (by rfl) ((HL.out.below Gu.out).below Hl.out) ?_ ?_ ?_
                        · have:=HH.out.2;show 3+j<=1000;omega
                        · exact Hl.out.size
                        intro v7 w7 HV H3 _;rw[g9.out]at HV;obtain⟨A7,c7,Ga,_,_⟩:=HV.form;rw[gn]at Ga;subst Ga;have Gz:=hid HV;have HY:=hid (Hl.out.grown H3 Hl.out.size (λg e=>by
                         have e:some wr.heap.size=some g:=e;injection e with e
                         exact Nat.le_of_eq e))
                        have b7:w7.cell? ⟨(adE.add (i*7)).block,(adE.add (i*7)).off+5,none⟩=some (.slice Ah N ch):=(World.cell?_of_block (HY.out.block _ (World.block_lt_of_cell? wr _ a5))).trans a5;clear HV H3)
                      |(go_simp
                        go_at_call 27;refine Calls.mono (H6.sameHeaders_yes Ah A7 N ch c7 ls _ Gy (G9.below HY.out) (gn▸Gz.out.hr)) ?_;rintro q6 w6 ⟨rfl,hC⟩;have H7:=hid (HY.out.trans (hC.mono HY.out.size));clear hC)
                      |fail)
                     all_goals
                      go_wp2_with fail;go_meet;exact hid ⟨by rw[show i=1 from Gx.out];rfl,H7.out,_,rfl⟩
                  case rest=>
                   obtain⟨rfl,hC,bk,rfl⟩:=hcut.out;have H7:=hid hC;clear hcut hC a0 a5 H5 H4;have hZ:=hid (gj.out.trans (H7.out.mono gj.out.size));have a6:wc.cell? ⟨(adE.add (i*7)).block,(adE.add (i*7)).off+6,none⟩=some (.slice x.ba nq x.bc):=(World.cell?_of_block (H7.out.block _ (World.block_lt_of_cell? wr _ G4.out))).trans G4.out;have Gb:=hid (h6.below H7.out (λg hg=>(h6.lt hg).1));obtain⟨A1,c1,e9,_,_,_⟩:=h6.form;subst e9;clear h6;go_wp2_with (first
                    |(at_builtin
                      refine wpList_app_any _ byteP rfl (.tmp 155) (.tmp 160) rfl wv.heap.size _ T.length T rfl Gb.out wv.heap.size x.ba nq x.bc q rfl (gl.out.below (H7.out.mono gj.out.size)) (by have:=Hj.out;omega) hZ.out.size ?_;intro A3 c3 w3 H9 Gc _ _ _;have GA:=hid H9;have Gd:=hid (hZ.out.grown Gc hZ.out.size (λg hg=>(Gb.out.lt hg).2));clear H9 Gc)
                    |fail)
                   have GB:=hid (Gt.out w3 Gd.out);have Ge:=Hj.out.2;go_loopw [23] (λt23 wy=>∃k:Nat,t23= .int .i64 (k:Nat)/\k<=nq/\Hid (InO w3 wy adE i x nq gB)) (λt23 _=>nq-toI t23)
                   case atStart=>exact⟨0,rfl,Nat.zero_le _,GB⟩
                   case round=>
                    obtain⟨k,rfl,Gf,hy⟩:=hrel;have a6:=hy.out.row;by_cases g1:k<nq
                    · have GC:(k:Int)<(nq:Int):=by omega
                      have k0:(0:Int)<=(k:Int):=by omega
                      obtain⟨ad,v,e,x0,f0⟩:=hy.out.wc k g1;rw[Nat.mul_one]at x0 f0;have h4:=hid (show k+1<=nq/\nq-(k+1)<nq-k from⟨by omega,by omega⟩);have ek:=zs4 k (by omega);have hf:=hid (hy.out.set e g1 (.int .u8 238));rw[e]at a6;have e':=e;clear hy Gf g1 Ge e';go_wp2_with fail;first
                       |exact⟨⟨k+1,rfl,h4.out.1,hf⟩,h4.out.2⟩
                       |(rw[ek];exact⟨⟨k+1,rfl,h4.out.1,hf⟩,h4.out.2⟩)
                    · have GC:¬(k:Int)<(nq:Int):=by omega
                      have Gg:=hid (OwL.next (i:=i) (p:=p) gZ.out Gd.out GA.out hy.out.gr G3.out gm.out);have h5:=HI.out;have g2:=hid (show i+1<=3/\3-(i+1)<3-i from⟨by omega,by omega⟩);have ei:=zs4 i (by omega);clear hy Gf g1 Ge;go_wp2_with fail;first
                       |exact⟨⟨i+1,rfl,g2.out.1,by first|rfl|exact dec_next i,Gg⟩,g2.out.2⟩
                       |(rw[ei];exact⟨⟨i+1,rfl,g2.out.1,by first|rfl|exact dec_next i,Gg⟩,g2.out.2⟩)
               · obtain rfl:i=3:=by omega
                 have hP:¬((3:Nat):Int)<3:=by omega
                 have h6:Ow wr wv.heap.size 5 u20 p.length p:=hh.out.own;obtain⟨A1,c1,e9,_,_,hD⟩:=h6.form;subst e9;have GD:=hid (sameBytes_any A1 A p.length n c1 c p p wr _ _ hD (HP.out.below hh.out.b));have GE:=hid hh.out.b;clear hh h5 G0 h6 hD;go_wp2_with fail;refine GD.out.mono ?_;rintro e w12 ⟨rfl,hw⟩;subst hw;go_wp2_with fail;go_ret;exact⟨by simp,GE.out⟩
end Go.Proofs.YtkpppjhbmnfmkaaGreatDoor
