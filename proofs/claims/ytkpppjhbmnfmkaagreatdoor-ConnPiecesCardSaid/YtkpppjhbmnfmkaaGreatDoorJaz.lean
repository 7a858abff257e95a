/-
  
  
  
  
  
  
  
-/
import Derived.Test.YtkpppjhbmnfmkaaGreatDoorJax
import Derived.Test.YtkpppjhbmnfmkaaGreatDoorJay
import Derived.Test.YtkpppjhbmnfmkaaGreatDoorJam
import Derived.Test.YtkpppjhbmnfmkaaGreatDoorJag
import Derived.Test.YtkpppjhbmnfmkaaGreatDoorJap
import Derived.Test.YtkpppjhbmnfmkaaGreatDoorJau
import Derived.Test.YtkpppjhbmnfmkaaGreatDoorKq
import Derived.Test.YtkpppjhbmnfmkaaGreatDoorJat
import Derived.Test.YtkpppjhbmnfmkaaGreatDoorJan
import Derived.Test.YtkpppjhbmnfmkaaGreatDoorJao
import Derived.Test.YtkpppjhbmnfmkaaGreatDoorJaq
import Derived.Test.YtkpppjhbmnfmkaaGreatDoorJai
import Derived.Test.YtkpppjhbmnfmkaaGreatDoorJaw
set_option linter.unusedSimpArgs false
set_option linter.unusedVariables false
section
namespace Go.Proofs.YtkpppjhbmnfmkaaGreatDoor
open Go.RowKit Go.Own Go.Own.Im Go.Own.Cx Go.Own.Fr
attribute [local go_sem] Oper.semAt_some
theorem strAt_upd {M:Cv} {id:Int} {s s':Sv} (h:strAt M id=some s) (e:s'.id=s.id) (M':Cv) (hM:M'.strs=updS M.strs s'):strAt M' id=some s':=by
 unfold strAt at h ⊢;rw[hM,updS,List.find?_map];have hp:((λx:Sv=>decide ((x.id:Int)=id))∘λx:Sv=>if x.id=s'.id then s' else x)=λx:Sv=>decide ((x.id:Int)=id):=by
  funext x
  show decide (((if x.id=s'.id then s' else x).id:Int)=id)=_;by_cases h2:x.id=s'.id
  · rw[if_pos h2,h2]
  · rw[if_neg h2]
 rw[hp,h];show some (if s.id=s'.id then s' else s)=_;rw[if_pos e.symm]
def dataS (s:Sv) (sz n:Nat) (fin:Bool):Sv:=endS {s with inw:=if fin then s.inw-sz else s.inw-sz+((sz-n:Nat):Int),held:=s.held+n} fin
def dataE (M:Cv) (s:Sv) (l:List UInt8) (fin:Bool) (A:Option Addr) (c:Nat):List EvV:=
 if 0<l.length\/fin=true then M.evs++[({kind:=2,stream:=s.id,fin:=fin,ba:=A,bc:=c,by_:=l}:EvV)]else M.evs
theorem evC_data (k st:Nat) (f:Bool) (A:Option Addr) (c:Nat) (l:List UInt8):evC {kind:=k,stream:=st,fin:=f,ba:=A,bc:=c,by_:=l}= #[.int .i64 (k:Nat),.int .i64 (st:Nat),.int .i64 0,.int .i64 0,.bool f,.slice none 0 0,.slice A l.length c]:=rfl
theorem wadd2 (a n:Nat) (h:a<=1000000000) (hs:n<=1000000):wrap64 ((a:Int)+(n:Int))=((a+n:Nat):Int)/\IntKind.i64.wrap ((a:Int)+(n:Int))=((a+n:Nat):Int):=⟨by unfold wrap64;omega,by rw[IntKind.wrap_i64];omega⟩
theorem evd_tag {w0 W:World} {ow0 OW:Nat->Tg} {b:Nat} {M:Cv} {L:Lay} {B n c st:Nat} {A:Option Addr} {l:List UInt8} {fin:Bool} (hF:Fr w0 ow0 W OW) (h:CN W OW b M L) (hr:Rd W B A n l) (hB:B<=W.heap.size) (hc:n<=c) (h2:0<n->∀ad,A=some ad->OW ad.block= .no/\w0.heap.size<=ad.block/\UF W ad.block):
 ∃OW',CN W OW' b M L/\Fr w0 ow0 W OW'/\EvOk W OW' {kind:=2,stream:=st,fin:=fin,ba:=A,bc:=c,by_:=l}/\∀g,B<=g->OW' g=OW g:=by
 have h1:l.length=n:=hr.1;rcases Nat.eq_zero_or_pos n with h0|h0
 · refine⟨OW,h,hF,⟨⟨Nat.le_refl _,Cm.RS.nil,λh=>absurd h (Nat.lt_irrefl _)⟩,⟨by show l.length<=c;omega,by show Rd W W.heap.size A l.length l;rw[h1];exact hr.more hB,λhp=>by have hp:0<l.length:=hp;omega⟩⟩,λ_ _=>rfl⟩
 · obtain⟨ad,rfl,h6,_⟩:=hr.2 h0
   obtain⟨h3,h7,h4⟩:=h2 h0 ad rfl;refine⟨upd OW ad.block .evd,h.tag h3 (by omega) .evd,⟨hF.os,hF.tape,hF.output,hF.size,hF.keep,λg h5 ho=>by rw[upd_other _ _ (by omega)];exact hF.no g h5 ho⟩,⟨⟨Nat.le_refl _,Cm.RS.nil,λh=>absurd h (Nat.lt_irrefl _)⟩,⟨by show l.length<=c;omega,by show Rd W W.heap.size (some ad) l.length l;rw[h1];exact hr.more hB,λ_ ad2 e=>by
    have e:some ad=some ad2:=e;injection e with e
    rw[<-e];exact⟨upd_same _ _ _,h4⟩⟩⟩,λg hg=>upd_other _ _ (by omega)⟩
end Go.Proofs.YtkpppjhbmnfmkaaGreatDoor
end

section
namespace Go.Proofs.YtkpppjhbmnfmkaaGreatDoor
open Go.RowKit Go.Own Go.Own.Im Go.Own.Cx Go.Own.Fr Go.Own.Hd
end Go.Proofs.YtkpppjhbmnfmkaaGreatDoor
end

section
namespace Go.Proofs.YtkpppjhbmnfmkaaGreatDoor
open Go.RowKit Go.Own Go.Own.Im Go.Own.Cx Go.Own.Fr Go.Own.Hd
theorem Env.d {w:World} {ow:Nat->Tg} (h:Env w ow):EnvD w ow:=⟨h.hp,h.no⟩
theorem tag_no {w W:World} {ow:Nat->Tg} {b:Nat} {M:Cv} {L:Lay} (h:CN w ow b M L) {A6:Option Addr} {c6:Nat} {l:List UInt8} (hd:Ow W w.heap.size 5 (.slice A6 l.length c6) l.length l):0<l.length->∀ad,A6=some ad->ow ad.block= .no:=λh1 ad ha=>by
 refine h.new _ ?_;rcases hd.2 with⟨e,h0⟩|⟨g,cap,cur,e,hb,_⟩
 · have h0:l.length=0:=h0
   omega
 · injection e with e
   rw[ha]at e;injection e with e
   rw[e];exact hb
end Go.Proofs.YtkpppjhbmnfmkaaGreatDoor
end

section
set_option maxHeartbeats 4000000
set_option maxRecDepth 100000
namespace Go.Proofs.YtkpppjhbmnfmkaaGreatDoor
open Go.RowKit Go.Own Go.Own.Im Go.Own.Cx Go.Own.Fr Go.Own.Hd
theorem works1_q (w:World) (ow:Nat->Tg) (b g:Nat) (M:Cv) (Q:Ending->World->Prop) (L:Lay) (i:Inf) (sv dv sz:Value) (h:CN w ow b M L) (hg:Blk w g 26 #[.pointer (some ⟨b,0,none⟩)]) (h6:ow g= .no) (h0:M.side=2) (hid:i.stream % 2=1)
 (hp:∀W ow' L',CN W ow' b {M with list:=some (i.stream,i.endd,[])} L'->Fr w ow W ow'->Calls Tryz.prog 150 #[.pointer (some ⟨b,0,none⟩),.agg (infC i sv dv)] W Q) (h2:∀e w',Q e w'->e= .returned (.tuple #[])\/∃cs,e= .panicked cs):
 Calls Tryz.prog 149 #[.agg (infC i sv dv),sz,.pointer (some ⟨g,0,none⟩)] w Q:=by
 have HX:=Lib.hid (Blk.new w 91 (infC i sv dv));have h4:=Lib.hid ((Below.refl w.heap.size w).alloc (Nat.le_refl _) (.cells (infC i sv dv) 91));have HC:=Lib.hid h;have HG:=Lib.hid hg;have hb:=Lib.hid h6;have HP:=Lib.hid hp;have h5:=Lib.hid h2;have hm:((i.stream:Int).tmod 2)=1:=by
  have:((i.stream:Int).tmod 2)=((i.stream % 2:Nat):Int):=rfl;rw[this,hid];rfl
 have hi:((i.stream:Int) % 2)=1:=by
  have:((i.stream:Int) % 2)=((i.stream % 2:Nat):Int):=rfl;rw[this,hid];rfl
 have HS:=Lib.hid h0;clear h hg h6 hp h0 h2;go_enter Tryz.func149,Tryz.ntmps149;go_upto_region 1 with fail;generalize w.alloc (.cells (infC i sv dv) 91)=W0 at*
 have h3:=Lib.hid (HC.out.below h4.out);have h7:=Lib.hid (HG.out.below h4.out HG.out.lt);have c0:W0.cell? ⟨b,0,none⟩=some (.int .i64 (M.side:Nat)):=h3.out.blk.cell 0;rw[HS.out]at c0;have g0:W0.cell? ⟨g,0,none⟩=some (.pointer (some ⟨b,0,none⟩)):=h7.out.cell 0;have x2:W0.cell? ⟨w.heap.size,2,none⟩=some (.int .i64 (i.stream:Nat)):=HX.out.cell 2;have x3:W0.cell? ⟨w.heap.size,3,none⟩=some (.bool i.endd):=HX.out.cell 3;go_upto_region 3 with fail;have HN:=Lib.hid (h3.out.begins i.stream i.endd);have f16:(W0.alloc (.cells #[.int .i64 (i.stream:Nat),.bool i.endd,.slice none 0 0] 195)).frozen? ⟨b,16,none⟩=false:=(h3.out.blk.alloc _).frozen 16;have y16:(W0.alloc (.cells #[.int .i64 (i.stream:Nat),.bool i.endd,.slice none 0 0] 195)).cell? ⟨b,16,none⟩=some L.list:=(h3.out.blk.alloc _).cell 16;go_upto_region 4 with fail;have hc:=Lib.hid HN.out.1;have hd:=Lib.hid ((Fr.below h4.out ow).trans HN.out.2);have h8:g≠b:=λe=>by have h1:=hb.out;rw[e,HC.out.tb]at h1;cases h1
 have h9:w.heap.size≠b:=by have:=HC.out.blk.lt;omega
 have he:=Lib.hid ((h7.out.alloc (.cells #[.int .i64 (i.stream:Nat),.bool i.endd,.slice none 0 0] 195)).far (p:=⟨b,16,none⟩) h8 (.pointer (some ⟨W0.heap.size,0,none⟩)));have hf:=Lib.hid ((HX.out.alloc (.cells #[.int .i64 (i.stream:Nat),.bool i.endd,.slice none 0 0] 195)).far (p:=⟨b,16,none⟩) h9 (.pointer (some ⟨W0.heap.size,0,none⟩)));clear h8 h9 f16 y16 HN c0 g0 x2 x3;generalize (W0.alloc (.cells #[.int .i64 (i.stream:Nat),.bool i.endd,.slice none 0 0] 195)).setCell ⟨b,16,none⟩ (.pointer (some ⟨W0.heap.size,0,none⟩))=W1 at*
 have g0:W1.cell? ⟨g,0,none⟩=some (.pointer (some ⟨b,0,none⟩)):=he.out.cell 0;have hh:=Lib.hid (show(Tryz.prog.info? 91).map (·.size)=some (infC i sv dv).size from infSize);go_wp2_with (first
  |(refine wpList_rowGet _ rfl (.tmp 3) 91 rfl w.heap.size 91 _ rfl hf.out _ Tryz.underlying91 rfl hh.out ?_)
  |fail)
 refine(HP.out W1 _ _ hc.out hd.out).mono ?_;intro e w2 hp;rcases h5.out e w2 hp with rfl|⟨cs,rfl⟩
 · have HQ:=Lib.hid hp
   clear hp;go_wp2;go_end0;exact HQ.out
 · have HQ:=Lib.hid hp
   clear hp;go_wp2;exact⟨rfl,HQ.out⟩
structure IdleM (M:Cv):Prop where
 greeted:M.greeted=true
 list:M.list=none
 strs:M.strs=[]
 last:M.last=0
 side:M.side=1\/M.side=2
 dgone:M.hp.dgone=false
 out:M.out.length<=100000000
 evs:M.evs.length<=800000
 outw:M.outw=65535
 window:0<=M.window/\M.window<=2147483647
 others:0<=M.others/\M.others<=2147483647
 cs:0<M.cs
 bye:M.bye=false
theorem opn_call {w:World} (t f s:Nat) (A:Option Addr) (n c:Nat) (l:List UInt8) (hc:n<=c) (hn:n<=16384) (ht:t<=255) (hf:f<=255) (hs:s<=2147483647):∀W:World,Rd W w.heap.size A n l->w.heap.size<=W.heap.size->Calls Tryz.prog 104 #[.agg #[.int .i64 (t:Nat),.int .i64 (f:Nat),.int .i64 (s:Nat),.slice A n c]] W (OpPost W t f s l):=
 λW hr hB=>open_all t f s A n c w.heap.size l W hr hB hc (by omega) ht hf hs
section
variable {M:Cv} {t f s:Nat} {p:List UInt8} {j:Inf}
end
end Go.Proofs.YtkpppjhbmnfmkaaGreatDoor
end

section
namespace Go.Proofs.YtkpppjhbmnfmkaaGreatDoor
open Go.RowKit Go.Own Go.Own.Im Go.Own.Cx Go.Own.Fr Go.Own.Hd
theorem enter_push3:Enters Tryz.prog 152:=enters_of Tryz.func152 (by kernel_rfl) rfl
theorem enter_reset4:Enters Tryz.prog 153:=enters_of Tryz.func153 (by kernel_rfl) rfl
theorem enter_ping5:Enters Tryz.prog 156:=enters_of Tryz.func156 (by kernel_rfl) rfl
theorem enter_away6:Enters Tryz.prog 157:=enters_of Tryz.func157 (by kernel_rfl) rfl
theorem enter_win7:Enters Tryz.prog 158:=enters_of Tryz.func158 (by kernel_rfl) rfl
theorem CPost.s {w w':World} {ow:Nat->Tg} {b:Nat} {M':Cv} {v:Value} {e:Ending} {S:Cv->Prop} (h:CPost w ow b M' v e w') (hs:S M'):CPostS w ow b S v e w':=⟨M',hs,h⟩
structure Fine (M M':Cv):Prop where
 dead:M'.dead=M.dead
 code:M'.code=M.code
 fed:M'.fed=M.fed
 preface:M'.preface=M.preface
 evs:∃E,M'.evs=M.evs++E/\E.length<=1/\∀e∈E,e.kind≠8
theorem opn_typ {t f s:Nat} {p:List UInt8} {j:Inf} (h:opn t f s p= .ok j):j.typ=t/\j.stream=s/\j.ack=((rowOf t).1&&hasF t f 1)/\j.endd=(!(rowOf t).1&&hasF t f 1)/\j.endHeads=hasF t f 4:=by
 have h1:∀(i:Inf) (q:List UInt8) (j:Inf),rd i q= .ok j->j.typ=i.typ/\j.stream=i.stream/\j.ack=i.ack/\j.endd=i.endd/\j.endHeads=i.endHeads:=by
  intro i q j h;have h0:∀(i:Inf) (q:List UInt8) (j:Inf),withDep i q= .ok j->j.typ=i.typ/\j.stream=i.stream/\j.ack=i.ack/\j.endd=i.endd/\j.endHeads=i.endHeads:=by
   intro i q j h;rw[withDep_is]at h
   split at h
   · cases h
   · injection h with h
     subst h;exact⟨rfl,rfl,rfl,rfl,rfl⟩
  unfold rd at h
  split at h
  · split at h
    · split at h
      · cases h
      · split at h
        · rename_i j2 h2
          injection h with h
          subst h;exact h0 i q j2 h2
        · cases h
    · injection h with h
      subst h;exact⟨rfl,rfl,rfl,rfl,rfl⟩
  · split at h
    · exact h0 i q j h
    · cases h
  · split at h
    · injection h with h
      subst h;exact⟨rfl,rfl,rfl,rfl,rfl⟩
    · cases h
  · split at h
    · cases h
    · split at h
      · injection h with h
        subst h;exact⟨rfl,rfl,rfl,rfl,rfl⟩
      · cases h
  · split at h
    · cases h
    · split at h
      · cases h
      · injection h with h
        subst h;exact⟨rfl,rfl,rfl,rfl,rfl⟩
  · split at h
    · injection h with h
      subst h;exact⟨rfl,rfl,rfl,rfl,rfl⟩
    · cases h
  · split at h
    · cases h
    · injection h with h
      subst h;exact⟨rfl,rfl,rfl,rfl,rfl⟩
  · split at h
    · split at h
      · cases h
      · injection h with h
        subst h;exact⟨rfl,rfl,rfl,rfl,rfl⟩
    · cases h
  · injection h with h
    subst h;exact⟨rfl,rfl,rfl,rfl,rfl⟩
 unfold opn at h
 split at h
 · cases h
 · split at h
   · split at h
     · cases h
     · split at h
       · cases h
       · exact h1 _ _ _ h
   · exact h1 _ _ _ h
section
variable {M:Cv} {t f s:Nat} {p:List UInt8} {j:Inf}
end
end Go.Proofs.YtkpppjhbmnfmkaaGreatDoor
end

section
namespace Go.Proofs.YtkpppjhbmnfmkaaGreatDoor
open Go.RowKit Go.Own Go.Own.Fr Go.Own.Im
theorem setsOf_err:∀(l:List UInt8) (x:Nat×Nat),setsOf l= .error x->x.1<=6/\x.2=0
 |a::b::c::d::e::f::r,x,h=>by
  rw[setsOf]at h;cases hb:badSet (ofB 0 [a,b],ofB 0 [c,d,e,f])with
  |some k=>
   rw[hb]at h;injection h with h
   subst h;refine⟨?_,rfl⟩;unfold badSet at hb
   split at hb
   · injection hb with hb;omega
   · split at hb
     · injection hb with hb;omega
     · cases hb
  |none=>
   rw[hb]at h;cases hr:setsOf r with
   |ok l=>rw[hr]at h;cases h
   |error y=>
    rw[hr]at h;injection h with h
    subst h;exact setsOf_err r _ hr
 |[],x,h=>by cases h
 |[_],x,h=>by cases h
 |[_,_],x,h=>by cases h
 |[_,_,_],x,h=>by cases h
 |[_,_,_,_],x,h=>by cases h
 |[_,_,_,_,_],x,h=>by cases h
theorem two_lt (a b:UInt8):ofB 0 [a,b]<=65535:=by
 have:=a.toNat_lt;have:=b.toNat_lt;simp[ofB];omega
theorem four_lt (a b c d:UInt8):ofB 0 [a,b,c,d]<=4294967295:=by
 have:=a.toNat_lt;have:=b.toNat_lt;have:=c.toNat_lt;have:=d.toNat_lt;simp[ofB];omega
theorem setsOf_ok:∀(l:List UInt8) (q:List (Nat×Nat)),setsOf l= .ok q->(∀x∈q,x.1<=65535/\x.2<=4294967295)/\q.length<=l.length
 |a::b::c::d::e::f::r,q,h=>by
  rw[setsOf]at h;cases hb:badSet (ofB 0 [a,b],ofB 0 [c,d,e,f])with
  |some k=>rw[hb]at h;cases h
  |none=>
   rw[hb]at h;cases hr:setsOf r with
   |error y=>rw[hr]at h;cases h
   |ok l=>
    rw[hr]at h;injection h with h
    subst h;obtain⟨h1,h2⟩:=setsOf_ok r _ hr;refine⟨λx hx=>?_,by simp;omega⟩;rcases List.mem_cons.1 hx with rfl|hx
    · exact⟨two_lt a b,four_lt c d e f⟩
    · exact h1 x hx
 |[],q,h=>by injection h with h;subst h;exact⟨λx hx=>(by cases hx),Nat.le_refl _⟩
 |[_],q,h=>by injection h with h;subst h;exact⟨λx hx=>(by cases hx),Nat.zero_le _⟩
 |[_,_],q,h=>by injection h with h;subst h;exact⟨λx hx=>(by cases hx),Nat.zero_le _⟩
 |[_,_,_],q,h=>by injection h with h;subst h;exact⟨λx hx=>(by cases hx),Nat.zero_le _⟩
 |[_,_,_,_],q,h=>by injection h with h;subst h;exact⟨λx hx=>(by cases hx),Nat.zero_le _⟩
 |[_,_,_,_,_],q,h=>by injection h with h;subst h;exact⟨λx hx=>(by cases hx),Nat.zero_le _⟩
theorem rd_err {i:Inf} {p:List UInt8} {x:Nat×Nat} (h:rd i p= .error x):x.1<=6/\(x.2=0\/x.2=i.stream):=by
 rcases ten i.typ with h1|h1|h1|h1|h1|h1|h1|h1|h1|h1|h1
 · rw[rd_0 h1]at h;cases h
 · rw[rd_one h1,withDep_is]at h
   split at h
   · split at h
     · injection h with h;subst h;exact⟨Nat.le_refl _,.inl rfl⟩
     · by_cases hd:(depI i p).dep=i.stream
       · rw[if_pos hd]at h;injection h with h;subst h;exact⟨by show 1<=6;omega,.inr rfl⟩
       · rw[if_neg hd]at h;cases h
   · cases h
 · rw[rd_2 h1,withDep_is]at h
   split at h
   · split at h
     · injection h with h;subst h;exact⟨by show 1<=6;omega,.inr rfl⟩
     · cases h
   · injection h with h;subst h;exact⟨Nat.le_refl _,.inr rfl⟩
 · rw[rd_3 h1]at h
   split at h
   · cases h
   · injection h with h;subst h;exact⟨Nat.le_refl _,.inl rfl⟩
 · rw[rd_4 h1]at h
   split at h
   · injection h with h;subst h;exact⟨Nat.le_refl _,.inl rfl⟩
   · cases hs:setsOf p with
     |ok l=>rw[hs]at h;cases h
     |error y=>
      rw[hs]at h;injection h with h
      subst h;exact⟨(setsOf_err p _ hs).1,.inl (setsOf_err p _ hs).2⟩
 · rw[rd_5 h1]at h
   split at h
   · injection h with h;subst h;exact⟨Nat.le_refl _,.inl rfl⟩
   · split at h
     · injection h with h;subst h;exact⟨by decide,.inl rfl⟩
     · cases h
 · rw[rd_6 h1]at h
   split at h
   · cases h
   · injection h with h;subst h;exact⟨Nat.le_refl _,.inl rfl⟩
 · rw[rd_7 h1]at h
   split at h
   · injection h with h;subst h;exact⟨Nat.le_refl _,.inl rfl⟩
   · cases h
 · rw[rd_8 h1]at h
   split at h
   · split at h
     · injection h with h;subst h;exact⟨by show 1<=6;omega,.inr rfl⟩
     · cases h
   · injection h with h;subst h;exact⟨Nat.le_refl _,.inl rfl⟩
 · rw[rd_9 h1]at h;cases h
 · rw[rd_big h1]at h;cases h
theorem opn_err {t f s:Nat} {p:List UInt8} {x:Nat×Nat} (h:opn t f s p= .error x):x.1<=6/\(x.2=0\/x.2=s):=by
 have hg:opn2 t f s p= .error x->x.1<=6/\(x.2=0\/x.2=s):=by
  intro h;unfold opn2 at h
  split at h
  · cases p with
    |nil=>injection h with h;subst h;exact⟨Nat.le_refl _,.inl rfl⟩
    |cons c q=>
     simp only at h
     split at h
     · injection h with h;subst h;exact⟨by decide,.inl rfl⟩
     · exact rd_err h
  · exact rd_err h
 rcases opn_str t f s p with⟨_,_,e⟩|⟨_,_,e⟩|⟨_,_,e⟩|⟨_,_,e⟩|⟨_,e⟩
 · rw[e]at h;injection h with h;subst h;exact⟨by decide,.inl rfl⟩
 · rw[e]at h;injection h with h;subst h;exact⟨by decide,.inl rfl⟩
 · exact hg (e.symm.trans h)
 · exact hg (e.symm.trans h)
 · exact hg (e.symm.trans h)
theorem opn_rd {t f s:Nat} {p:List UInt8} {j:Inf} (h:opn t f s p= .ok j) (ht:¬(t=0\/t=1\/t=5)):rd (info0 t f s) p= .ok j:=by
 have h8:¬hasF t f 8=true:=by rw[has8,decide_eq_false ht];simp
 have hg:opn2 t f s p=rd (info0 t f s) p:=if_neg h8;rcases opn_str t f s p with⟨_,_,e⟩|⟨_,_,e⟩|⟨_,_,e⟩|⟨_,_,e⟩|⟨_,e⟩
 · rw[e]at h;cases h
 · rw[e]at h;cases h
 all_goals exact hg.symm.trans (e.symm.trans h)
theorem low_lt (n:Nat):low n<=2147483647:=by unfold low;omega
theorem opn_inc {f s:Nat} {p:List UInt8} {j:Inf} (h:opn 8 f s p= .ok j):1<=j.inc/\j.inc<=2147483647:=by
 have h:=opn_rd h (by decide);rw[rd_8 rfl]at h
 split at h
 · split at h
   · cases h
   · next hz=>
     injection h with h
     subst h;exact⟨Nat.pos_of_ne_zero hz,low_lt _⟩
 · cases h
theorem opn_sets {f s:Nat} {p:List UInt8} {j:Inf} (h:opn 4 f s p= .ok j):(∀x∈j.sets,x.1<=65535/\x.2<=4294967295)/\j.sets.length<=p.length:=by
 have h:=opn_rd h (by decide);rw[rd_4 rfl]at h
 split at h
 · cases h
 · cases hs:setsOf p with
   |error y=>rw[hs]at h;cases h
   |ok l=>
    rw[hs]at h;injection h with h
    subst h;exact setsOf_ok p l hs
theorem opn_ping {f s:Nat} {p:List UInt8} {j:Inf} (h:opn 6 f s p= .ok j):j={typ:=6,stream:=s,ack:=j.ack,data:=p}/\p.length=8:=by
 have h:=opn_rd h (by decide);rw[rd_6 rfl]at h
 split at h
 · next h8=>
   injection h with h
   subst h;refine⟨?_,h8⟩;have e4:hasF 6 f 4=false:=by rw[hasF_is];simp[rowOf]
   have e8:hasF 6 f 8=false:=by rw[hasF_is];simp[rowOf]
   have e32:hasF 6 f 32=false:=by rw[hasF_is];simp[rowOf]
   simp[info0,rowOf,e4,e8,e32]
 · cases h
theorem rd_one_len {i:Inf} {p:List UInt8} {j:Inf} (h1:i.typ=1) (h:rd i p= .ok j):j.data.length<=p.length:=by
 rw[rd_one h1,withDep_is]at h
 split at h
 · split at h
   · cases h
   · by_cases hd:(depI i p).dep=i.stream
     · rw[if_pos hd]at h;cases h
     · rw[if_neg hd]at h;injection h with h;subst h;simp
 · injection h with h;subst h;exact Nat.le_refl _
theorem opn_len {f s:Nat} {p:List UInt8} {j:Inf} (h:opn 1 f s p= .ok j):j.data.length<=p.length:=by
 have hg:opn2 1 f s p= .ok j->j.data.length<=p.length:=by
  intro h;unfold opn2 at h
  split at h
  · cases p with
    |nil=>cases h
    |cons c q=>
     simp only at h
     split at h
     · cases h
     · have:=rd_one_len (by rfl) h
       simp at this ⊢;omega
  · exact rd_one_len rfl h
 rcases opn_str 1 f s p with⟨_,_,e⟩|⟨_,_,e⟩|⟨_,_,e⟩|⟨_,_,e⟩|⟨_,e⟩
 · rw[e]at h;cases h
 · rw[e]at h;cases h
 all_goals exact hg (e.symm.trans h)
end Go.Proofs.YtkpppjhbmnfmkaaGreatDoor
end

section
namespace Go.Proofs.YtkpppjhbmnfmkaaGreatDoor
open Go.RowKit Go.Own Go.Own.Im Go.Own.Cx Go.Own.Fr Go.Own.Hd
theorem Runs.mono {n:Nat} {M:Cv} {S S2:Cv->Prop} (h:Runs n M S):(∀M',S M'->S2 M')->Runs n M S2:=by
 induction h with
 |dead h1 h2=>exactλhs=>.dead h1 (hs _ h2)
 |stop h1 h2=>exactλhs=>.stop h1 (h2.mono hs)
 |more h1 h2 h3 ih=>exactλhs=>.more h1 h2 (λM1 hm=>ih M1 hm hs)
theorem TakesT.mono {M:Cv} {t f s:Nat} {p:List UInt8} {S S2:Cv->Prop} (h:TakesT M t f s p S) (hs:∀M',S M'->S2 M'):TakesT M t f s p S2:=λw ow b L A c h1 h2 h3 h4 h5=>
 (h w ow b L A c h1 h2 h3 h4 h5).mono λe w' ⟨M',h,k⟩=>⟨M',hs _ h,k⟩
section
variable {M:Cv} {t f s:Nat} {p:List UInt8}
end
end Go.Proofs.YtkpppjhbmnfmkaaGreatDoor
end
