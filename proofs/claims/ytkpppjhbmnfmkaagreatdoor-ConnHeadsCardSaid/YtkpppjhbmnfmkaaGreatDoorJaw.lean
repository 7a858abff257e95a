/-
  
  
  
  
  
  
  
  
  
  
  
-/
import Derived.Test.YtkpppjhbmnfmkaaGreatDoorJac
import Derived.Test.YtkpppjhbmnfmkaaGreatDoorJad
import Derived.Test.YtkpppjhbmnfmkaaGreatDoorJai
import Derived.Deep.OwnRows
import Derived.Lib.AppendStr
set_option linter.unusedSimpArgs false
set_option linter.unusedVariables false
section
set_option maxHeartbeats 4000000
set_option maxRecDepth 100000
namespace Go.Proofs.YtkpppjhbmnfmkaaGreatDoor
open Lib (hid)
open Go.RowKit Go.Own Go.Own.Fr
attribute [local go_sem] Oper.semAt_some
theorem arr66 (t:Array Value) (h:t.size=66):t=(t.getD 0 undef::t.getD 1 undef::t.getD 2 undef::t.getD 3 undef::t.getD 4 undef::t.getD 5 undef::t.getD 6 undef::t.getD 7 undef::t.getD 8 undef::t.getD 9 undef::t.getD 10 undef::t.getD 11 undef::t.getD 12 undef::t.getD 13 undef::t.getD 14 undef::t.getD 15 undef::t.getD 16 undef::t.getD 17 undef::t.getD 18 undef::t.getD 19 undef::t.getD 20 undef::t.getD 21 undef::t.getD 22 undef::t.getD 23 undef::t.getD 24 undef::t.getD 25 undef::t.getD 26 undef::t.getD 27 undef::t.getD 28 undef::t.getD 29 undef::t.getD 30 undef::t.getD 31 undef::t.getD 32 undef::t.getD 33 undef::t.getD 34 undef::t.getD 35 undef::t.getD 36 undef::t.getD 37 undef::t.getD 38 undef::t.getD 39 undef::t.getD 40 undef::t.getD 41 undef::t.getD 42 undef::t.getD 43 undef::t.getD 44 undef::t.getD 45 undef::t.getD 46 undef::t.getD 47 undef::t.getD 48 undef::t.getD 49 undef::t.getD 50 undef::t.getD 51 undef::t.getD 52 undef::t.getD 53 undef::t.getD 54 undef::t.getD 55 undef::t.getD 56 undef::t.getD 57 undef::t.getD 58 undef::t.getD 59 undef::t.getD 60 undef::t.getD 61 undef::t.getD 62 undef::t.getD 63 undef::t.getD 64 undef::t.getD 65 undef::[]).toArray:=by
 exact arr_gen t 66 h
structure IA (a:Act) (v0 v8 v9:Value):Prop where
 dfr:a.defers=[]
 size:a.tmps.size=66
 s0:a.tmps.getD 0 undef=v0
 s8:a.tmps.getD 8 undef=v8
 s9:a.tmps.getD 9 undef=v9
theorem IA.lit {a:Act} {v0 v8 v9:Value} (h:IA a v0 v8 v9):∃u:Nat->Value,a={tmps:=(v0::u 1::u 2::u 3::u 4::u 5::u 6::u 7::v8::v9::u 10::u 11::u 12::u 13::u 14::u 15::u 16::u 17::u 18::u 19::u 20::u 21::u 22::u 23::u 24::u 25::u 26::u 27::u 28::u 29::u 30::u 31::u 32::u 33::u 34::u 35::u 36::u 37::u 38::u 39::u 40::u 41::u 42::u 43::u 44::u 45::u 46::u 47::u 48::u 49::u 50::u 51::u 52::u 53::u 54::u 55::u 56::u 57::u 58::u 59::u 60::u 61::u 62::u 63::u 64::u 65::[]).toArray,defers:=[]}:=by
 refine⟨λk=>a.tmps.getD k undef,?_⟩;obtain⟨t,df⟩:=a;obtain⟨h1,hz,e0,e8,e9⟩:=h;have h2:=arr66 t hz;simp only at h1 e0 e8 e9;rw[h1]
 congr 1
 rw[e0,e8,e9]at h2;exact h2
theorem lit66 {a:Act} (h1:a.defers=[]) (hz:a.tmps.size=66):∃u:Nat->Value,a={tmps:=(u 0::u 1::u 2::u 3::u 4::u 5::u 6::u 7::u 8::u 9::u 10::u 11::u 12::u 13::u 14::u 15::u 16::u 17::u 18::u 19::u 20::u 21::u 22::u 23::u 24::u 25::u 26::u 27::u 28::u 29::u 30::u 31::u 32::u 33::u 34::u 35::u 36::u 37::u 38::u 39::u 40::u 41::u 42::u 43::u 44::u 45::u 46::u 47::u 48::u 49::u 50::u 51::u 52::u 53::u 54::u 55::u 56::u 57::u 58::u 59::u 60::u 61::u 62::u 63::u 64::u 65::[]).toArray,defers:=[]}:=by
 refine⟨λk=>a.tmps.getD k undef,?_⟩;obtain⟨t,df⟩:=a;have h2:=arr66 t hz;simp only at h1;rw[h1]
 congr 1
theorem and_u8m (a:Nat) (ha:a<256):bits .and .u8 (a:Int) 127=((a % 128:Nat):Int):=by
 show IntKind.u8.wrap ((BitVec.ofInt 8 (a:Int)&&& BitVec.ofInt 8 127).toNat:Int)=_;have h1:(BitVec.ofInt 8 (a:Int)).toNat=a:=by rw[BitVec.ofInt_natCast,BitVec.toNat_ofNat];exact Nat.mod_eq_of_lt (by omega)
 have h2:(BitVec.ofInt 8 127).toNat=127:=rfl;have h3:a&&& 127=a % 128:=Nat.and_two_pow_sub_one_eq_mod a 7;rw[BitVec.toNat_and,h1,h2,h3];have h4:a % 128<128:=Nat.mod_lt _ (by omega);generalize a % 128=y at*
 simp[IntKind.wrap,IntKind.bits,IntKind.signed];omega
theorem shl7 (P:Program) (y i:Nat) (hy:y<=127) (h1:1<=i) (h5:i<=5) (W:World):(Op.shift .shl .i64 (y:Int) .i64 (wrap64 (7*wrap64 ((i:Int)-1)))).run P W= .ok (.int .i64 ((y*2^(7*(i-1)):Nat):Int)) W:=by
 have e1:wrap64 ((i:Int)-1)=((i-1:Nat):Int):=by unfold wrap64;omega
 have e2:wrap64 (7*((i-1:Nat):Int))=((7*(i-1):Nat):Int):=by unfold wrap64;omega
 have hd:7*(i-1)<=28:=by omega
 rw[e1,e2];generalize 7*(i-1)=d at*
 have hp:y*2^d<=127*268435456:=Nat.mul_le_mul hy (Nat.le_trans (Nat.pow_le_pow_right (by omega) hd) (by decide));have hm:min (d:Int).toNat IntKind.i64.bits=d:=by show min (d:Int).toNat 64=d;omega
 have hc:(y:Int)*2^d=((y*2^d:Nat):Int):=by rw[Int.natCast_mul];congr 1
 unfold Op.shift;rw[if_neg (by omega)];simp only[hm,hc];show(pure (Value.int .i64 (IntKind.i64.wrap ((y*2^d:Nat):Int))):Sem Value).run P W=_;generalize y*2^d=z at*
 have hz:IntKind.i64.wrap (z:Int)=(z:Int):=by rw[IntKind.wrap_i64];omega
 rw[hz]
 rfl
theorem zbound {x acc i:Nat} (hx:x<=127) (h1:1<=i) (h5:i<=5) (ha:acc<=255*2^(7*(i-1))):acc+x*2^(7*(i-1))<=200000000000:=by
 have hp:2^(7*(i-1))<=268435456:=Nat.le_trans (Nat.pow_le_pow_right (by omega) (show 7*(i-1)<=28 by omega)) (by decide);generalize 2^(7*(i-1))=p at*
 have:=Nat.mul_le_mul hx hp;have:=Nat.mul_le_mul (Nat.le_refl 255) hp;omega
theorem accbound {y acc i:Nat} (hy:y<=127) (h1:1<=i) (ha:acc<=255*2^(7*(i-1))):acc+y*2^(7*(i-1))<=255*2^(7*(i+1-1)):=by
 have e:7*(i+1-1)=7*(i-1)+7:=by omega
 rw[e,Nat.pow_add];generalize 2^(7*(i-1))=p at*
 have:=Nat.mul_le_mul hy (Nat.le_refl p);have e2:(2:Nat)^7=128:=rfl;rw[e2];omega
theorem w64_self (i:Nat) (h:i<1000000000000):wrap64 (i:Int)=(i:Int):=by unfold wrap64;omega
theorem w64_pred (i:Nat) (h:i<1000000000000):wrap64 ((i:Int)+1-1)=(i:Int):=by unfold wrap64;omega
theorem w64_add (a z:Nat) (h:a+z<=200000000000):wrap64 ((a:Int)+(z:Int))=((a+z:Nat):Int):=by unfold wrap64;omega
theorem sub_back {a b:Nat} (h:b<=a):a-(a-b)=b:=by omega
theorem xm_sub {x:Nat} (h:¬x<128) (h2:x<256):x % 128=x-128:=by omega
theorem y_127 {x:Nat} (h2:x<256):x-128<=127:=by omega
theorem ib_big {i n:Nat} (h:i<n) (hn:n<=1000000):i<1000000000000:=by omega
theorem w64_127 {y:Nat} (h:y<=127):wrap64 (y:Int)=(y:Int):=by unfold wrap64;omega
theorem drewN_post (w:World) (k m:Nat):∃n,(w.drewN k).drewN m=w.drewN n:=⟨_,World.drewN_drewN ..⟩
def IntPost (bits:Nat) (l:List UInt8) (w:World) (e:Ending) (w':World):Prop:=
 (∃n,w'=w.drewN n)/\((∃i r,Hk.intP bits l=some (i,r)/\e= .returned (.tuple #[.int .i64 (i:Nat),.int .i64 (l.length-r.length:Nat),.nilIface]))\/(Hk.intP bits l=none/\∃a,e= .returned (.tuple #[.int .i64 0,.int .i64 0,ev a])))
def IL (bits:Nat) (l:List UInt8) (A:Option Addr) (n c:Nat) (w:World) (lb:Nat) (a:Act) (W:World):Prop:=
 (lb=1/\∃acc i:Nat,IA a (.slice A n c) (.int .i64 (acc:Nat)) (.int .i64 (i:Nat))/\1<=i/\i<=6/\i<=n/\acc<=255*2^(7*(i-1))/\Hk.intMore (6-i) (7*(i-1)) acc (l.drop i)=Hk.intP bits l/\∃k,W=w.drewN k)\/
 (lb=0/\a.defers=[]/\a.tmps.size=66/\Hk.intP bits l=none/\∃k,W=w.drewN k)
def muI (lb:Nat) (a:Act):Nat:=if lb=1 then 10-(intOf (a.tmps.getD 9 undef)).toNat else 0
theorem hint_any (bt:Nat) (A:Option Addr) (n c B:Nat) (l:List UInt8) (w:World) (hG:bt=4\/bt=5\/bt=6\/bt=7) (hr:Rd w B A n l) (hc:n<=c) (hn:n<=1000000) (hE:HpE w):
 Calls Tryz.prog 256 #[.slice A n c,.int .i64 (bt:Nat)] w (IntPost bt l w):=by
 obtain⟨el,hQ⟩:=hE.long;obtain⟨ee,hR⟩:=hE.end_;have HR:=hid hr;have hl:=hr.1;have hS:=hid (λk=>(show(w.drewN k).cell? ⟨5,0,none⟩=some (ev el)from hQ));have hT:=hid (λk=>(show(w.drewN k).cell? ⟨10,0,none⟩=some (ev ee)from hR));have HN:=hid (show n<=1000000/\n<=c/\l.length=n from⟨hn,hc,hl⟩);clear hE hr hQ hR hn hc hl;go_enter Tryz.func256,Tryz.ntmps256;go_wp2_with fail;refine wp_scope_many (IL bt l A n c w) (λlb a _=>muI lb a) ?_ ?_ ?_
 · rintro lb a W (⟨rfl,_⟩|⟨rfl,_⟩)<;>exact⟨_,rfl⟩
 · intro h9
   have H0:=hid h9;clear h9;cases n with
   |zero=>
    have H1:l=[]:=List.eq_nil_of_length_eq_zero HN.out.2.2;subst H1;have q0:w.cell? ⟨10,0,none⟩=some (ev ee):=hT.out 0;rcases hG with rfl|rfl|rfl|rfl
    all_goals
     go_wp2_with fail;go_quiet (fail);go_wp2_with fail;go_ret3;exact⟨⟨_,rfl⟩,.inr ⟨rfl,_,rfl⟩⟩
   |succ n=>
    obtain⟨ad,hA,H2,hcell⟩:=HR.out.at_ (k:=0) (Nat.succ_pos n);subst hA;cases l with
    |nil=>have:=HN.out.2.2;simp at this
    |cons b l=>
     have hcell:w.cell? ad=some (.int .u8 (b.toNat:Int)):=hcell;have hU:b.toNat<256:=b.toNat_lt;obtain⟨x,hx⟩:∃x,b.toNat=x:=⟨_,rfl⟩;rw[hx]at hcell hU;have HX:=hid (And.intro hx hU);have h8:∀m:Nat,m<256->bits .and .i64 (x:Int) (m:Int)=((x&&& m:Nat):Int):=λm hm=>and_nat x m (by omega) (by omega);obtain⟨y,hy⟩:∃y,x % 2^bt=y:=⟨_,rfl⟩;have hV:y<=255:=by rw[<-hy];exact Nat.le_trans (Nat.mod_le _ _) (by omega)
     have hW:y<2^bt:=by rw[<-hy];exact Nat.mod_lt _ (Nat.pow_pos (by omega))
     have HY:=hid (And.intro hy hV);have hH:2^bt-1<256:=by rcases hG with rfl|rfl|rfl|rfl<;>decide
     have hI:x&&& (2^bt-1)=y:=by rw[Nat.and_two_pow_sub_one_eq_mod,hy]
     clear hx hy hV;by_cases hh:y<2^bt-1
     · have hi:Hk.intP bt (b::l)=some (y,l):=by rw[Hk.intP,HX.out.1,HY.out.1,if_pos hh]
       have HP:=hid hi;clear hi;rcases hG with rfl|rfl|rfl|rfl
       all_goals
        have ha:=h8 _ hH;rw[hI]at ha;have hj:=Int.ofNat_lt.2 hh;clear h8 hI hW hH hh;first
         |(have hb:bits .and .i64 (x:Int) 15=(y:Int):=ha;have hM:(y:Int)<15:=hj)
         |(have hb:bits .and .i64 (x:Int) 31=(y:Int):=ha;have hM:(y:Int)<31:=hj)
         |(have hb:bits .and .i64 (x:Int) 63=(y:Int):=ha;have hM:(y:Int)<63:=hj)
         |(have hb:bits .and .i64 (x:Int) 127=(y:Int):=ha;have hM:(y:Int)<127:=hj)
        clear ha hj;go_wp2_with fail;go_ret3;exact⟨⟨0,rfl⟩,.inl ⟨_,_,HP.out,by simp⟩⟩
     · have H3:y=2^bt-1:=by omega
       have hi:Hk.intP bt (b::l)=Hk.intMore 5 0 y l:=by rw[Hk.intP,HX.out.1,HY.out.1,if_neg hh]
       have HP:=hid hi;clear hi;subst H3;rcases hG with rfl|rfl|rfl|rfl
       all_goals
        have ha:=h8 _ hH;rw[hI]at ha;clear h8 hI hW hh hH;first
         |(have hb:bits .and .i64 (x:Int) 15=15:=ha)
         |(have hb:bits .and .i64 (x:Int) 31=31:=ha)
         |(have hb:bits .and .i64 (x:Int) 63=63:=ha)
         |(have hb:bits .and .i64 (x:Int) 127=127:=ha)
        clear ha;go_wp2_with fail;go_step3;rename_i hK;refine hK _ _ (H0.out 1 _ rfl _ _ (.inl ⟨rfl,_,1,⟨rfl,rfl,rfl,rfl,rfl⟩,Nat.le_refl _,by omega,by omega,by decide,?_,0,rfl⟩));exact HP.out.symm
 · rintro lb r hl a W (⟨rfl,acc,i,hX,h1,h6,hJ,hF,hg,k,rfl⟩|⟨rfl,hd,hz,h0,k,rfl⟩)
   · injection hl with hl
     injection hl with _ hl
     subst hl;obtain⟨u,rfl⟩:=hX.lit;clear hX;have HG:=hid hg;have hf:=hid hF;clear hg hF;by_cases hk:i=6
     · subst hk
       have h0:Hk.intP bt l=none:=by rw[<-HG.out];rfl
       have ho:=hid h0;clear h0 hJ;go_wp2_with fail;go_step3;exact⟨.inr ⟨rfl,rfl,rfl,ho.out,k,rfl⟩,by simp[muI,intOf]⟩
     obtain⟨m,hm⟩:∃m,6-i=m+1:=⟨5-i,by omega⟩;rw[hm]at HG;by_cases hN:i=n
     · have h0:Hk.intP bt l=none:=by
        have hd:l.drop i=[]:=List.drop_eq_nil_of_le (by rw[HN.out.2.2];omega);rw[<-HG.out,hd];rfl
       have ho:=hid h0;have q0:w.cell? ⟨10,0,none⟩=some (ev ee):=hT.out 0;have hne:¬i=6:=hk;have H8:((i:Int)==6)=false:=by simp;omega
       clear h0 hJ hm;subst hN;go_wp2_with fail;go_quiet (fail);go_wp2_with fail;go_ret3;exact⟨drewN_post _ _ _,.inr ⟨ho.out,_,rfl⟩⟩
     · have he:i<n:=by omega
       have h5:i<=5:=by omega
       obtain⟨ad,hA,H2,hcell⟩:=HR.out.at_ he;subst hA;have hcell:w.cell? (ad.add i)=some (.int .u8 ((l.getD i 0).toNat:Int)):=hcell;have hO:l.drop i=l.getD i 0::l.drop (i+1):=by
        have h2:i<l.length:=by rw[HN.out.2.2];exact he
        rw[List.drop_eq_getElem_cons h2]
        congr 1
        rw[List.getD,List.getElem?_eq_getElem h2];rfl
       have hq:(l.getD i 0).toNat<256:=(l.getD i 0).toNat_lt;have h4:=HG.out;rw[hO,Hk.intMore]at h4;generalize (l.getD i 0).toNat=x at*
       have ha:=and_u8m x hq;have H9:(i:Int)<(n:Int):=by omega
       have Ha:((i:Int)==6)=false:=by simp;omega
       have Hb:((i:Int)==(n:Int))=false:=by simp;omega
       have HI:=hid (And.intro he hm);have hL:=ib_big he HN.out.1;have Hc:=w64_succ i hL;have He:=w64_self i hL;have Hg:=w64_pred i hL;clear hL;by_cases hx:x<128
       · rw[if_pos hx]at h4
         have ht:x % 128=x:=Nat.mod_eq_of_lt hx;rw[ht]at ha;have hu:(l.drop (i+1)).length=l.length-(i+1):=List.length_drop;have H4:¬(128:Int)<=(x:Int):=λh=>absurd (Int.ofNat_le.1 h) (Nat.not_le.2 hx);have hP:=λW=>shl7 Tryz.prog x i (Nat.le_of_lt_succ hx) h1 h5 W;have hw:=hid (zbound (x:=x) (Nat.le_of_lt_succ hx) h1 h5 hf.out);obtain⟨z,hz⟩:∃z,x*2^(7*(i-1))=z:=⟨_,rfl⟩;rw[hz]at hP h4 hw;have hY:=hid hu;have hC:=hid (And.intro h1 (And.intro hk h6));have H5:wrap64 ((acc:Int)+(z:Int))=((acc+z:Nat):Int):=w64_add acc z hw.out;clear hz ht hq hN hu hJ h1 h6 hk he hO hm h5;by_cases h7:acc+z<=2147483647
         · rw[if_pos h7]at h4
           have hD:=hid h4;have H7:((acc:Int)+(z:Int))<=2147483647:=by have h:=Int.ofNat_le.2 h7;exact h
           clear h4 h7;go_wp2_with fail;go_ret3;refine⟨⟨k,rfl⟩,.inl ⟨_,_,hD.out.symm,?_⟩⟩;rw[hY.out,sub_back (by have:=HN.out.2.2;have:=HI.out.1;omega)]
           rfl
         · rw[if_neg h7]at h4
           have hD:=hid h4;have q0:w.cell? ⟨5,0,none⟩=some (ev el):=hS.out 0;have H7:¬((acc:Int)+(z:Int))<=2147483647:=λh=>h7 (Int.ofNat_le.1 h);clear h4 h7;go_wp2_with fail;apply wp_label;go_wp2_with fail;go_quiet (fail);go_wp2_with fail;go_ret3;exact⟨drewN_post _ _ _,.inr ⟨hD.out.symm,_,rfl⟩⟩
       · rw[if_neg hx]at h4
         have ht:x % 128=x-128:=xm_sub hx hq;rw[ht]at ha;have hu:(l.drop (i+1)).length=l.length-(i+1):=List.length_drop;have H4:(128:Int)<=(x:Int):=Int.ofNat_le.2 (Nat.not_lt.1 hx);have h3:x-128<=127:=y_127 hq;obtain⟨y,hy⟩:∃y,x-128=y:=⟨_,rfl⟩;rw[hy]at ha h4 h3;have hP:=λW=>shl7 Tryz.prog y i h3 h1 h5 W;have Hh:=w64_127 h3;have hw:=hid (zbound (x:=y) h3 h1 h5 hf.out);have hZ:=hid (accbound (y:=y) h3 h1 hf.out);obtain⟨z,hz⟩:∃z,y*2^(7*(i-1))=z:=⟨_,rfl⟩;rw[hz]at hP h4 hw hZ;have hY:=hid hu;have hD:=hid h4;have hC:=hid (And.intro h1 (And.intro h5 he));have H5:wrap64 ((acc:Int)+(z:Int))=((acc+z:Nat):Int):=w64_add acc z hw.out;clear hz ht hq hN hu hJ h1 h6 hk he hO hm h5 h4 hy h3 hx;go_wp2_with fail;try go_step3
         refine⟨.inl ⟨rfl,acc+z,i+1,⟨rfl,rfl,rfl,rfl,rfl⟩,Nat.le_add_left 1 i,Nat.succ_le_succ hC.out.2.1,hC.out.2.2,hZ.out,?_,k,rfl⟩,?_⟩
         · rw[<-hD.out]
           have e1:6-(i+1)=m:=by have:=HI.out.2;omega
           have e2:7*(i+1-1)=7*(i-1)+7:=by have:=hC.out.1;omega
           rw[e1,e2]
         · simp[muI,intOf]
           have:=hC.out.2.1;omega
   · injection hl with hl
     injection hl with _ hl
     subst hl;obtain⟨u,rfl⟩:=lit66 hd hz;have ho:=hid h0;have q0:w.cell? ⟨5,0,none⟩=some (ev el):=hS.out 0;clear h0;go_wp2_with fail;go_quiet (fail);go_wp2_with fail;go_ret3;exact⟨drewN_post _ _ _,.inr ⟨ho.out,_,rfl⟩⟩
end Go.Proofs.YtkpppjhbmnfmkaaGreatDoor
end

section
set_option maxHeartbeats 4000000
set_option maxRecDepth 100000
namespace Go.Proofs.YtkpppjhbmnfmkaaGreatDoor
open Lib (hid)
open Go.RowKit Go.Own Go.Own.Fr
attribute [local go_sem] Oper.semAt_some
theorem run_sub8 {P:Program} {t e:TypeId} (hP:ByteP P t e) (A:Option Addr) (n c k u:Nat) (hk:k+u<=n) (hc:n<=c) (W:World):
 (Instr.slice t (.slice A n c) (some (.int .i64 (k:Int))) (some (.int .i64 ((k:Int)+(u:Int)))) none).run P W= .ok (.slice (if c=k then A else A.map λx=>x.add k) u (c-k)) W:=by
 obtain⟨i,hi,hz,h1,h2⟩:=hP.info;have e:((k:Int)+(u:Int)).toNat=k+u:=by omega
 have h0:=run_sliceBound (P:=P) (w:=W) .i64 (k:Int) (k+u) .sliceB (by omega) (by omega);simp only[Int.toNat_natCast]at h0;simp[Instr.slice,h0,run_underlying hP.slice,Instr.sliceBounds,run_sliceBound,sizeOf,typeInfo,hi,h1,Result.andThen,e,show(k:Int)+u<=c by omega,show(0:Int)<=(k:Int)+u by omega]
def TextPost (l:List UInt8) (w:World) (e:Ending) (w':World):Prop:=
 Below w.heap.size w w'/\((∃s r,Hk.textP l=some (s,r)/\e= .returned (.tuple #[.string ⟨s.toArray⟩,.int .i64 (l.length-r.length:Nat),.nilIface]))\/(Hk.textP l=none/\∃a,e= .returned (.tuple #[.string ⟨#[]⟩,.int .i64 0,ev a])))
theorem w64_add2 (a b:Nat) (h:a<=1000000) (k:b<=1000000):wrap64 ((a:Int)+(b:Int))=(a:Int)+(b:Int):=by unfold wrap64;omega
theorem w64_sub2 (a b:Nat) (h:a<=1000000) (k:b<=a):wrap64 ((a:Int)-(b:Int))=((a-b:Nat):Int):=by unfold wrap64;omega
theorem intP_len2 {bits:Nat} {l:List UInt8} {i:Nat} {r:List UInt8} (h:Hk.intP bits l=some (i,r)):∃at_,at_+r.length=l.length/\l.drop at_=r/\1<=at_:=by
 have more:∀(k sh n:Nat) (l:List UInt8) (m:Nat) (r:List UInt8),Hk.intMore k sh n l=some (m,r)->∃at_,at_+r.length=l.length/\l.drop at_=r:=by
  intro k
  induction k with
  |zero=>intro sh n l m r h;simp[Hk.intMore]at h
  |succ k ih=>
   intro sh n l m r h;cases l with
   |nil=>simp[Hk.intMore]at h
   |cons b l=>
    rw[Hk.intMore]at h
    split at h
    · split at h
      · injection h with h;injection h with _ h;subst h
        exact⟨1,by simp;omega,rfl⟩
      · cases h
    · obtain⟨a,h1,h2⟩:=ih _ _ _ _ _ h
      exact⟨a+1,by simp;omega,h2⟩
 cases l with
 |nil=>cases h
 |cons b l=>
  rw[Hk.intP]at h
  split at h
  · injection h with h;injection h with _ h;subst h
    exact⟨1,by simp;omega,rfl,Nat.le_refl _⟩
  · obtain⟨a,h1,h2⟩:=more _ _ _ _ _ _ h
    exact⟨a+1,by simp;omega,h2,by omega⟩
theorem hgive_err (a:Addr) (w:World):Calls Tryz.prog 242 #[ev a] w λe w'=>e= .panicked [{v:=.iface 279 (.agg #[ev a]),recovered:=false}]/\w'=w:=by
 unfold ev;go_enter Tryz.func242,Tryz.ntmps242;go_wp2;exact⟨rfl,rfl,rfl⟩
theorem htext_any (A:Option Addr) (n c B:Nat) (l:List UInt8) (w:World) (hr:Rd w B A n l) (hB:B<=w.heap.size) (hc:n<=c) (hn:n<=1000000) (hE:HpE w):
 Calls Tryz.prog 264 #[.slice A n c] w (TextPost l w):=by
 have h7:=hid (hint_any 7 A n c B l w (by omega) hr hc hn hE);obtain⟨el,hq⟩:=hE.long;obtain⟨ee,hu⟩:=hE.end_;obtain⟨eh,hL⟩:=hE.huff;have hM:=hid (λk=>(show(w.drewN k).cell? ⟨5,0,none⟩=some (ev el)from hq));have hN:=hid (λk=>(show(w.drewN k).cell? ⟨10,0,none⟩=some (ev ee)from hu));have hl:=hr.1;have HN:=hid (show n<=1000000/\n<=c/\l.length=n from⟨hn,hc,hl⟩);have HR:=hid hr;have hO:=hid hE.room;have hP:=hid hB;clear hE hq hu hn hc hl hr hB;cases hi:Hk.intP 7 l with
 |none=>
  have ht:Hk.textP l=none:=by rw[Hk.textP,hi]
  have HT:=hid ht;clear ht;go_enter Tryz.func264,Tryz.ntmps264;go_wp2_with (first
   |(go_at_call 256
     refine Calls.mono h7.out ?_;rintro e w1 ⟨⟨k1,hw⟩,hp⟩;rcases hp with⟨i,r,h6,_⟩|⟨_,a,rfl⟩
     · rw[hi]at h6;cases h6
     subst w1;unfold ev)
   |fail)
  go_ret3;exact⟨bdN (Below.refl _ _) _,.inr ⟨HT.out,a,rfl⟩⟩
 |some p=>
  obtain⟨i,r⟩:=p;obtain⟨at_,hf,hb,hh⟩:=intP_len2 hi;have hd:l.length-r.length=at_:=by omega
  have he:Hid (Calls Tryz.prog 256 #[.slice A n c,.int .i64 7] w λe w'=>(∃n,w'=w.drewN n)/\e= .returned (.tuple #[.int .i64 (i:Nat),.int .i64 (at_:Nat),.nilIface])):=hid (h7.out.mono (by
   rintro e w1 ⟨hw,hp⟩;rcases hp with⟨i2,r2,h6,rfl⟩|⟨h0,_⟩
   · rw[hi]at h6
     injection h6 with h6
     injection h6 with h1 h2
     subst h1 h2;exact⟨hw,by rw[hd]⟩
   · rw[hi]at h0;cases h0))
  have hj:r.length<=1000000:=by have:=HN.out.1;have:=HN.out.2.2;omega
  by_cases h3:16384<i
  · have ht:Hk.textP l=none:=by rw[Hk.textP,hi];simp only;rw[if_pos h3]
    have HT:=hid ht;have q0:w.cell? ⟨5,0,none⟩=some (ev el):=hM.out 0;have hQ:(16384:Int)<(i:Int):=Int.ofNat_lt.2 h3;clear ht hi hf hb hh hd h3 hj;go_enter Tryz.func264,Tryz.ntmps264;go_wp2_with (first
     |(go_at_call 256
       refine Calls.mono he.out ?_;rintro e w1 ⟨⟨k1,hw⟩,rfl⟩;subst w1)
     |fail)
    go_quiet (fail);go_wp2_with fail;go_ret3;exact⟨bdN (bdN (Below.refl _ _) _) _,.inr ⟨HT.out,_,rfl⟩⟩
  · have hQ:¬(16384:Int)<(i:Int):=λh=>h3 (Int.ofNat_lt.1 h)
    have hX:wrap64 ((n:Int)-(at_:Int))=((r.length:Nat):Int):=by
     rw[w64_sub2 n at_ HN.out.1 (by have:=HN.out.2.2;omega)]
     congr 1
     have:=HN.out.2.2;omega
    by_cases h4:r.length<i
    · have ht:Hk.textP l=none:=by rw[Hk.textP,hi];simp only;rw[if_neg h3,if_pos h4]
      have HT:=hid ht;have q0:w.cell? ⟨10,0,none⟩=some (ev ee):=hN.out 0;have hR:((r.length:Nat):Int)<(i:Int):=Int.ofNat_lt.2 h4;clear ht hi hf hb hh hd h3 hj h4;generalize r.length=rl at*
      go_enter Tryz.func264,Tryz.ntmps264;go_wp2_with (first
       |(go_at_call 256
         refine Calls.mono he.out ?_;rintro e w1 ⟨⟨k1,hw⟩,rfl⟩;subst w1)
       |fail)
      go_quiet (fail);go_wp2_with fail;go_ret3;exact⟨bdN (bdN (Below.refl _ _) _) _,.inr ⟨HT.out,_,rfl⟩⟩
    · have hR:¬((r.length:Nat):Int)<(i:Int):=λh=>h4 (Int.ofNat_lt.1 h)
      have hk:at_+i<=n:=by have:=HN.out.2.2;omega
      have hS:=run_sub8 (P:=Tryz.prog) byteP A n c at_ i hk HN.out.2.1;have h5:=HR.out.sub (k:=at_) (u:=i) (c:=c) hk HN.out.2.1;rw[hb]at h5;have h8:=w64_add2 at_ i (by have:=HN.out.1;omega) (by omega);obtain⟨A',hC⟩:∃A',(if c=at_ then A else A.map λx=>x.add at_)=A':=⟨_,rfl⟩;rw[hC]at hS h5;have hY:=λk=>run_str (P:=Tryz.prog) (c:=c-at_) 22 9 5 Tryz.underlying22 Tryz.underlying5 Tryz.underlying9 (h5.drewN k);have hm:0<n:=by omega
      obtain⟨ad,hA,hZ,hcell⟩:=HR.out.at_ (k:=0) hm;subst hA;have hcell:w.cell? ad=some (.int .u8 ((l.getD 0 0).toNat:Int)):=hcell;have ho:l.headD 0=l.getD 0 0:=by cases l<;>rfl
      have hD:(r.drop i).length=r.length-i:=List.length_drop;have h9:l.length-(r.drop i).length=at_+i:=by rw[hD];omega
      have HF:=hid h9;have hW:(0:Int)<(n:Int):=Int.ofNat_lt.2 hm;have hF:(l.getD 0 0).toNat<256:=(l.getD 0 0).toNat_lt;have hT:=hid (λk=>hdec_any A' i (c-at_) B (r.take i) (ev eh) (w.drewN k) (h5.drewN k) hP.out (by have:=HN.out.2.1;omega) (by omega) hL (Nat.lt_of_lt_of_le (by decide) hO.out));have hG:∀s,(l.getD 0 0).toNat<128/\s=r.take i\/¬(l.getD 0 0).toNat<128/\Hk.decH (r.take i)=some s->Hk.textP l=some (s,r.drop i):=λs hs=>by
       rw[Hk.textP,hi];simp only;rw[if_neg h3,if_neg h4,ho];rcases hs with⟨h1,rfl⟩|⟨h1,h2⟩
       · rw[if_pos h1]
       · rw[if_neg h1,h2]
      have hH:¬(l.getD 0 0).toNat<128->Hk.decH (r.take i)=none->Hk.textP l=none:=λh1 h2=>by
       rw[Hk.textP,hi];simp only;rw[if_neg h3,if_neg h4,ho,if_neg h1,h2]
      have hI:=hid hG;have hU:=hid hH;clear hG hH ho hD h9 hi hf hb hh hd h3 hj h4 h5 hk hm hC;generalize (l.getD 0 0).toNat=x at*
      generalize r.length=rl at*
      by_cases hx:x<128
      · have hV:¬(128:Int)<=(x:Int):=λh=>absurd (Int.ofNat_le.1 h) (Nat.not_le.2 hx)
        have HT:=hid (hI.out _ (.inl ⟨hx,rfl⟩));clear hx hF;go_enter Tryz.func264,Tryz.ntmps264;go_wp2_with (first
         |(go_at_call 256
           refine Calls.mono he.out ?_;rintro e w1 ⟨⟨k1,hw⟩,rfl⟩;subst w1)
         |fail)
        go_ret3;refine⟨bdN (Below.refl _ _) _,.inl ⟨_,_,HT.out,?_⟩⟩;rw[HF.out,h8]
        rfl
      · have hV:(128:Int)<=(x:Int):=Int.ofNat_le.2 (Nat.not_lt.1 hx)
        have HX:=hid hx;clear hx hF;go_enter Tryz.func264,Tryz.ntmps264;go_wp2_with fail;refine he.out.mono ?_;rintro e w1 ⟨⟨k1,hw⟩,rfl⟩;subst w1;go_wp2_with fail;refine(hT.out _).mono ?_;rintro e w2 ⟨hJ,hp⟩;have hK:=hid hJ;clear hJ;rcases hp with⟨s,hs,rfl⟩|⟨hs,rfl⟩
        · have HT:=hid (hI.out _ (.inr ⟨HX.out,hs⟩))
          clear hs;go_wp2_with fail;go_ret3;refine⟨(bdN (Below.refl w.heap.size w) k1).trans hK.out,.inl ⟨_,_,HT.out,?_⟩⟩;rw[HF.out];simp[h8]
        · have HT:=hid (hU.out HX.out hs)
          clear hs;unfold ev;go_wp2_with fail;go_ret3;exact⟨(bdN (Below.refl w.heap.size w) k1).trans hK.out,.inr ⟨HT.out,_,rfl⟩⟩
end Go.Proofs.YtkpppjhbmnfmkaaGreatDoor
end

section
set_option maxHeartbeats 4000000
set_option maxRecDepth 100000
namespace Go.Proofs.YtkpppjhbmnfmkaaGreatDoor
open Lib (hid)
open Go.RowKit Go.Own Go.Own.Cx
def lineL:List (List UInt8):=Hk.statL.map λp=>if p.2.isEmpty then p.1 else p.1++32::p.2
def StatA (L:List ByteArray):Prop:=L.map (·.data.toList)=lineL
theorem cut_all:lineL.map (λl=>((Lib.cut l [32]).1,(Lib.cut l [32]).2.1))=Hk.statL:=by kernel_rfl
theorem line_len:lineL.all (λl=>Nat.ble l.length 100)=true:=by kernel_rfl
theorem lineL_len:lineL.length=61:=by kernel_rfl
theorem StatA.len {L:List ByteArray} (h:StatA L):L.length=61:=by
 have:=congrArg List.length h
 rwa [List.length_map,lineL_len]at this
theorem StatA.at_ {L:List ByteArray} (h:StatA L) {j:Nat} {hd:Hd.HdrV} (hj:Hk.statH[j]?=some hd):∃s:ByteArray,L[j]?=some s/\s.size<=100/\(⟨(Lib.cut s.data.toList [32]).1.toArray⟩:ByteArray)=hd.name/\(⟨(Lib.cut s.data.toList [32]).2.1.toArray⟩:ByteArray)=hd.value/\hd.never=false/\j<61:=by
 have h4:j<61:=by
  have h1:=(List.getElem?_eq_some_iff.1 hj).1;have h2:Hk.statH.length=61:=by kernel_rfl
  omega
 have h0:j<L.length:=by rw[h.len];exact h4
 refine⟨L[j],List.getElem?_eq_getElem h0,?_,?_⟩
 · have h1:lineL[j]?=some (L[j].data.toList):=by rw[<-show L.map (·.data.toList)=lineL from h,List.getElem?_map,List.getElem?_eq_getElem h0];rfl
   have h2:=List.all_eq_true.1 line_len _ (List.mem_of_getElem? h1);have h3:=Nat.le_of_ble_eq_true h2
   simpa using h3
 · have h1:lineL[j]?=some (L[j].data.toList):=by rw[<-show L.map (·.data.toList)=lineL from h,List.getElem?_map,List.getElem?_eq_getElem h0];rfl
   have h2:Hk.statL[j]?=some ((Lib.cut (L[j].data.toList) [32]).1,(Lib.cut (L[j].data.toList) [32]).2.1):=by
    rw[<-cut_all,List.getElem?_map,h1];rfl
   rw[Hk.statH,List.getElem?_map,h2]at hj;simp only[Option.map_some,Option.some.injEq]at hj;subst hj;exact⟨rfl,rfl,rfl,h4⟩
theorem statA_of {s:ByteArray} (h1:lns s.data.toList=lineL):StatA (Lib.splitB ⟨#[10]⟩ 0 (Lib.countB s ⟨#[10]⟩) s)/\Lib.countB s ⟨#[10]⟩+1=61:=by
 obtain⟨e1,e2⟩:=lns_split s.data.toList.length s.data.toList (Nat.le_refl _);have e3:(Lib.splitB ⟨#[10]⟩ 0 (Lib.countB s ⟨#[10]⟩) s).map (·.data.toList)=lns s.data.toList:=(Lib.splitB_data _ _ _ _).trans e1;refine⟨e3.trans h1,?_⟩;rw[h1,lineL_len]at e2;exact e2
theorem standsA_any (w:World) (m:Int) (hm:w.cell? ⟨13,0,none⟩=some (.int .i64 m)):
 Calls Tryz.prog 233 #[] w λe w'=>∃L,StatA L/\e= .returned (.slice (some ⟨w.heap.size,0,none⟩) 61 61)/\w'=w.alloc (.cells (L.map Value.string).toArray 9):=by
 have HS:=hid (λ(s:ByteArray) (hs:s.size<4294967281) (h1:lns s.data.toList=lineL)=>
  (show Calls Tryz.prog 255 #[.string s,.string ⟨#[10]⟩] w λe w'=>∃L,StatA L/\e= .returned (.slice (some ⟨w.heap.size,0,none⟩) 61 61)/\w'=w.alloc (.cells (L.map Value.string).toArray 9)from by
    obtain⟨k1,k2⟩:=statA_of h1;refine(Tryz.strings_Split s ⟨#[10]⟩ m w hs hm (by decide)).mono ?_;intro e w' h;exact⟨_,k1,by rw[h.1,k2],h.2⟩))
 go_enter Tryz.func233,Tryz.ntmps233;go_wp2_with (first
  |(go_at_call 255
    refine Calls.mono (HS.out _ (of_decide_eq_true (by kernel_rfl)) (by kernel_rfl)) ?_;rintro e w1 ⟨L,hL,rfl,hw⟩;subst w1)
  |fail)
 go_ret;exact⟨L,hL,rfl,rfl⟩
theorem staticA_any (i j:Nat) (hij:i=j+1) (h:Hd.HdrV) (hi:Hk.statH[j]?=some h) (w:World) (m:Int) (hm:w.cell? ⟨13,0,none⟩=some (.int .i64 m)):
 Calls Tryz.prog 212 #[.int .i64 (i:Nat)] w λe w'=>e= .returned (.tuple #[.agg (hdrC h),.bool true])/\Below w.heap.size w w':=by
 have h3:=hid ((Below.refl w.heap.size w).alloc (Nat.le_refl _) (.cells #[.string ⟨#[]⟩,.string ⟨#[]⟩,.bool false] 63));have HX:=hid (Blk.new w 63 #[.string ⟨#[]⟩,.string ⟨#[]⟩,.bool false]);have hg:13<w.heap.size:=World.block_lt_of_cell? w _ hm;have HM:=hid (λ(W:World) (hb:Below w.heap.size w W)=>(show W.cell? ⟨13,0,none⟩=some (.int .i64 m)from(World.cell?_of_block (hb.block _ hg)).trans hm));have HI:=hid hi;have h5:j<61:=by
  have h1:=(List.getElem?_eq_some_iff.1 hi).1;have h2:Hk.statH.length=61:=by kernel_rfl
  omega
 have k1:¬(i:Int)<1:=by omega
 have k2:¬(61:Int)<(i:Int):=by omega
 have h6:i-1=j:=by omega
 have he:=hid h6;clear hm hg hi hij h5 h6;go_enter Tryz.func212,Tryz.ntmps212;go_upto_region 3 with fail;generalize w.alloc (.cells #[.string ⟨#[]⟩,.string ⟨#[]⟩,.bool false] 63)=W0 at*
 have hf:=HM.out W0 h3.out;go_wp2_with (first
  |(go_at_call 233
    refine Calls.mono (standsA_any W0 m hf) ?_;rintro e w1 ⟨L,hL,rfl,hw⟩;obtain⟨s,h7,h8,hs3,h9,hc,hh⟩:=hL.at_ HI.out;have h4:=hid (h3.out.alloc h3.out.size (.cells (L.map Value.string).toArray 9));have qj:w1.cell? ⟨W0.heap.size,i-1,none⟩=some (.string s):=by
     rw[hw,he.out];exact((Blk.new W0 9 (L.map Value.string).toArray).cell j).trans (by simp[h7])
    have hd:=hid (And.intro h8 (And.intro hs3 (And.intro h9 hc)));rw[<-hw]at h4;have h0:Blk w1 w.heap.size 63 #[.string ⟨#[]⟩,.string ⟨#[]⟩,.bool false]:=hw▸HX.out.alloc _;have hj:=HM.out w1 h4.out;clear hL hw h7 h8 hs3 h9 hc hh)
  |(go_at_call 232
    refine Calls.mono (Tryz.strings_Cut _ _ m _ (by have:=hd.out.1;omega) hj) ?_;rintro e w2 ⟨rfl,n,hw⟩;subst w2;have hk:=h0.drewN n;have x0:=h0.cell 0;have x1:=h0.cell 1;have x2:=h0.cell 2;have xf:=h0.frozen 0;have xf1:=h0.frozen 1;have xf2:=h0.frozen 2;simp only[List.getElem?_toArray,List.getElem?_cons_zero,List.getElem?_cons_succ]at x0 x1 x2)
  |fail)
 refine bodyPost_ret (results_static _ _ w.heap.size _ _ _ _ rfl rfl (Blk3 hk rfl _ _ _)) rfl ⟨?_,below3 (bdN h4.out n) (Nat.le_refl _) _ _ _⟩;obtain⟨hn,hv,hne⟩:=h;have e1:=hd.out;simp only at e1;obtain⟨_,e2,e3,e4⟩:=e1;subst e2 e3 e4
 rfl
theorem static0_any (w:World):Calls Tryz.prog 212 #[.int .i64 0] w λe w'=>e= .returned (.tuple #[.agg #[.string ⟨#[]⟩,.string ⟨#[]⟩,.bool false],.bool false])/\Below w.heap.size w w':=by
 have h0:=hid ((Below.refl w.heap.size w).alloc (Nat.le_refl _) (.cells #[.string ⟨#[]⟩,.string ⟨#[]⟩,.bool false] 63));have HX:=hid (Blk.new w 63 #[.string ⟨#[]⟩,.string ⟨#[]⟩,.bool false]);go_enter Tryz.func212,Tryz.ntmps212;go_upto_region 2 with fail;generalize w.alloc (.cells #[.string ⟨#[]⟩,.string ⟨#[]⟩,.bool false] 63)=W0 at*
 have x0:=HX.out.cell 0;have x1:=HX.out.cell 1;have x2:=HX.out.cell 2;have xf:=HX.out.frozen 0;have xf1:=HX.out.frozen 1;have xf2:=HX.out.frozen 2;have xl:=HX.out.lt;simp only[List.getElem?_toArray,List.getElem?_cons_zero,List.getElem?_cons_succ]at x0 x1 x2;go_wp2_with fail;refine bodyPost_ret (results_static _ _ w.heap.size _ _ _ _ rfl rfl (Blk3 HX.out rfl _ _ _)) rfl ⟨rfl,below3 h0.out (Nat.le_refl _) _ _ _⟩
end Go.Proofs.YtkpppjhbmnfmkaaGreatDoor
end

section
set_option maxHeartbeats 1000000
set_option maxRecDepth 100000
namespace Go.Proofs.YtkpppjhbmnfmkaaGreatDoor
open Go.RowKit Go.Own Go.Own.Fr
attribute [local go_sem] Oper.semAt_some
def LenS (s:ByteArray):Prop:=s.data.toList=(List.range 257).map λi=>UInt8.ofNat (Hf.sz i+92)
theorem lengths_any (w:World):Calls Tryz.prog 164 #[] w λe w'=>(∃s,e= .returned (.string s)/\LenS s)/\w'=w:=by
 go_enter Tryz.func164,Tryz.ntmps164;go_wp2_with fail;go_ret;refine⟨⟨_,rfl,?_⟩,rfl⟩;unfold LenS
 kernel_rfl
theorem LenS.size {s:ByteArray} (h:LenS s):s.size=257:=by
 have:=congrArg List.length h
 simpa using this
theorem LenS.at_ {s:ByteArray} (h:LenS s) {i:Nat} (hi:i<257):s.data.toList[i]?=some (UInt8.ofNat (Hf.sz i+92)):=by
 rw[show s.data.toList=_ from h,List.getElem?_map,List.getElem?_range hi];rfl
end Go.Proofs.YtkpppjhbmnfmkaaGreatDoor
end

section
set_option maxHeartbeats 4000000
set_option maxRecDepth 100000
namespace Go.Proofs.YtkpppjhbmnfmkaaGreatDoor
open Go.RowKit Go.Own Go.Own.Fr
attribute [local go_sem] Oper.semAt_some
def toI (v:Value):Nat:=match v with| .int _ n=>n.toNat|_=>0
theorem ow_one (w:World) (x:Int) (b:UInt8) (hv:x=(b.toNat:Int)):Ow (w.alloc (.cells #[.int .u8 x] 5)) w.heap.size 5 (.slice (some ⟨w.heap.size,0,none⟩) 1 1) 1 [b]:=by
 subst hv;exact⟨rfl,.inr ⟨w.heap.size,1,#[.int .u8 (b.toNat:Int)],rfl,Nat.le_refl _,Blk.new w _ _,Nat.le_refl _,by decide,rfl,rfl⟩⟩
theorem u8n (n:Nat) (h:n<256):(n:Int)=((UInt8.ofNat n).toNat:Int):=by rw[UInt8.toNat_ofNat'];omega
structure PJ (w wr:World) (all_:List UInt8) (m k:Nat) (done:List UInt8) (v:Value):Prop where
 own:Ow wr w.heap.size 5 v done.length done
 b:Below w.heap.size w wr
 eq:all_=done++Hk.putMore k m
 lt:m<128^(k+1)
 few:done.length+k<=8
 k4:k<=4
def PJI (w:World) (all_:List UInt8) (t2 t8:Value) (wr:World):Prop:=∃m k done,t2= .int .i64 (m:Nat)/\PJ w wr all_ m k done t8
theorem rm1 (m:Nat):Int.tmod (m:Int) 128=((m % 128:Nat):Int):=(Int.ofNat_tmod m 128).symm
theorem rq1 (m:Nat):Int.tdiv (m:Int) 128=((m/128:Nat):Int):=by simp
theorem rm2 (m:Nat):wrap64 (((m % 128:Nat):Int)+128)=((m % 128+128:Nat):Int):=by unfold wrap64;omega
theorem rm3 (m:Nat):IntKind.i64.wrap (((m % 128:Nat):Int)+128)=((m % 128+128:Nat):Int):=by rw[IntKind.wrap_i64];omega
theorem rm4 (m:Nat):IntKind.u8.wrap ((m % 128+128:Nat):Int)=((m % 128+128:Nat):Int):=by rw[IntKind.wrap_u8];omega
theorem rq2 (m:Nat) (h:m<34359738368):wrap64 ((m/128:Nat):Int)=((m/128:Nat):Int):=by unfold wrap64;omega
theorem rq3 (m:Nat) (h:m<34359738368):IntKind.i64.wrap ((m/128:Nat):Int)=((m/128:Nat):Int):=by rw[IntKind.wrap_i64];omega
theorem rm5 (m:Nat) (h:m<128):IntKind.u8.wrap (m:Int)=(m:Int):=by rw[IntKind.wrap_u8];omega
theorem more_big {k j m:Nat} (hk:k=j+1) (h:128<=m):Hk.putMore k m=UInt8.ofNat (m % 128+128)::Hk.putMore j (m/128):=by
 subst hk;rw[Hk.putMore,if_neg (by omega)]
theorem more_end {k m:Nat} (h:m<128):Hk.putMore k m=[UInt8.ofNat m]:=by
 cases k with
 |zero=>rfl
 |succ j=>rw[Hk.putMore,if_pos h]
theorem m_less {m:Nat} (h:128<=m):m/128<m:=by omega
def PutPost (l:List UInt8) (w:World) (e:Ending) (w':World):Prop:=∃A c,e= .returned (.slice A l.length c)/\Ow w' w.heap.size 5 (.slice A l.length c) l.length l/\Below w.heap.size w w'
theorem pow128 (k:Nat) (hk:k<=4) (m:Nat) (h:m<128^(k+1)) (h2:128<=m):∃j,k=j+1/\m/128<128^(j+1):=by
 cases k with
 |zero=>simp at h;omega
 |succ j=>exact⟨j,rfl,by rw[Nat.pow_succ]at h;exact Nat.div_lt_of_lt_mul (by rw[Nat.mul_comm];exact h)⟩
theorem rputint_any (f b t n:Nat) (hb:1<=b/\b<=7) (ht:t+1=2^b) (hf:f+t<256) (hA:f % (t+1)=0) (hn:n<=2147483647) (w:World):
 Calls Tryz.prog 48 #[.int .i64 f,.int .i64 b,.int .i64 n] w (PutPost (Hk.putI f b n) w):=by
 have hL:t<=127:=by have:=Nat.pow_le_pow_right (show 0<2 by decide) hb.2;omega
 have hI:2^b-1=t:=by omega
 have hp:wrap64 ((2:Int)^b)=((t+1:Nat):Int):=by rw[show((2:Int)^b)=((2^b:Nat):Int)by simp,<-ht];unfold wrap64;omega
 have h5:decide ((b:Int)<1)=false:=by simp;omega
 have h6:decide ((8:Int)<(b:Int))=false:=by simp;omega
 have h7:decide ((f:Int)<0)=false:=by simp
 have h8:decide ((255:Int)<(f:Int))=false:=by simp;omega
 obtain⟨q,hq⟩:∃q,t+1=q:=⟨_,rfl⟩;rw[hq]at hp hA;have h9:(q=0)=False:=by simp;omega
 have hc:((f:Int) % (q:Int))=0:=by rw[<-Int.natCast_emod,hA];rfl
 have hd:wrap64 ((q:Int)-1)=(t:Int):=by unfold wrap64;omega
 have he:IntKind.i64.wrap ((q:Int)-1)=(t:Int):=by rw[IntKind.wrap_i64];omega
 have hC:=Lib.hid (And.intro hp (And.intro hd (And.intro he (And.intro h9 (And.intro hc (And.intro h5 (And.intro h6 (And.intro h7 h8))))))));clear ht hq hA hp hd he h9 hc h5 h6 h7 h8;have k1:((n:Int)<0)=False:=by simp
 have k2:((2147483647:Int)<(n:Int))=False:=by simp;omega
 have k3:decide ((2147483647:Int)<(n:Int))=false:=by simp;omega
 by_cases h3:n<t
 · have HV:=Lib.hid (show Hk.putI f b n=[UInt8.ofNat (f+n)]by unfold Hk.putI;rw[hI,if_pos h3])
   have hi:(n:Int)<(t:Int):=by omega
   have hx:=u8n (f+n) (by omega);have w1:wrap64 ((f:Int)+(n:Int))=((f+n:Nat):Int):=by unfold wrap64;omega
   have w2:IntKind.i64.wrap ((f:Int)+(n:Int))=((f+n:Nat):Int):=by rw[IntKind.wrap_i64];omega
   have w3:IntKind.u8.wrap ((f+n:Nat):Int)=((f+n:Nat):Int):=by rw[IntKind.wrap_u8];omega
   have HX:=Lib.hid hx;generalize hy:((f+n:Nat):Int)=y at*
   clear hx hy;obtain⟨hp,hd,he,h9,hc,h5,h6,h7,h8⟩:=hC.out;go_enter Tryz.func48,Tryz.ntmps48;go_wp2_with fail;go_ret;rw[HV.out];exact⟨_,_,rfl,ow_one w _ _ HX.out,(Below.refl _ _).alloc (Nat.le_refl _) _⟩
 · have HV:=Lib.hid (show Hk.putI f b n=[UInt8.ofNat (f+t)]++Hk.putMore 4 (n-t)by unfold Hk.putI;rw[hI,if_neg h3];rfl)
   have hi:¬(n:Int)<(t:Int):=by omega
   have hid:decide ((n:Int)<(t:Int))=false:=by simp;omega
   have w4:wrap64 ((f:Int)+(t:Int))=((f+t:Nat):Int):=by unfold wrap64;omega
   have w5:IntKind.i64.wrap ((f:Int)+(t:Int))=((f+t:Nat):Int):=by rw[IntKind.wrap_i64];omega
   have w6:IntKind.u8.wrap ((f+t:Nat):Int)=((f+t:Nat):Int):=by rw[IntKind.wrap_u8];omega
   have w1:wrap64 ((n:Int)-(t:Int))=((n-t:Nat):Int):=by unfold wrap64;omega
   have w2:IntKind.i64.wrap ((n:Int)-(t:Int))=((n-t:Nat):Int):=by rw[IntKind.wrap_i64];omega
   have HJ:=Lib.hid (show PJI w (Hk.putI f b n) (.int .i64 ((n-t:Nat):Int)) (.slice (some ⟨w.heap.size,0,none⟩) 1 1) (w.alloc (.cells #[.int .u8 ((f:Int)+(t:Int))] 5))from
    ⟨n-t,4,[UInt8.ofNat (f+t)],rfl,ow_one w _ _ (by rw[<-u8n (f+t) hf];rfl),(Below.refl _ _).alloc (Nat.le_refl _) _,HV.out,by show _<34359738368;omega,by simp,by decide⟩)
   generalize hH:Hk.putI f b n=all_ at*
   generalize hm:((n-t:Nat):Int)=m0 at*
   clear hm HV hH h3;obtain⟨hp,hd,he,h9,hc,h5,h6,h7,h8⟩:=hC.out;go_enter Tryz.func48,Tryz.ntmps48;go_upto_region 8 with fail;clear w1 w2 hp hd he h9 hc h5 h6 h7 h8 w4 w5 w6 k1 k2 k3 hC;generalize w.alloc (.cells #[.int .u8 ((f:Int)+(t:Int))] 5)=W0 at*
   go_loopw [2,8] (λt2 t8 wr=>PJI w all_ t2 t8 wr) (λt2 _ _=>toI t2)
   case atStart=>exact HJ.out
   case round=>
    obtain⟨m,k,done,rfl,hj⟩:=hrel;have HP:=Lib.hid hj;obtain⟨A1,c1,rfl,_,_,_⟩:=hj.own.form;have hw:=hj.b.size;have hJ:=Lib.hid (show m<34359738368 from Nat.lt_of_lt_of_le hj.lt (Nat.le_trans (Nat.pow_le_pow_right (by omega) (show k+1<=5 by have:=hj.k4;omega)) (by decide)));clear hj;by_cases h0:128<=m
    · have hb:(128:Int)<=(m:Int):=by omega
      have hu:=Lib.hid (show((m % 128+128:Nat):Int)=((UInt8.ofNat (m % 128+128)).toNat:Int)from u8n _ (by omega));have hD:=Lib.hid (show done.length+1<=140737488355328 from by have:=HP.out.few;omega);obtain⟨j,hk,h3⟩:=pow128 k HP.out.k4 m HP.out.lt h0;have e1:=rm1 m;have e2:=rm2 m;have e3:=rm3 m;have e4:=rm4 m;have e5:=rq1 m;have e6:=rq2 m hJ.out;have e7:=rq3 m hJ.out;have HK:=Lib.hid (And.intro hk (And.intro h3 (And.intro (more_big hk h0) (m_less h0))));clear hk h3;generalize hx:((m % 128+128:Nat):Int)=x at e2 e3 e4 hu;generalize hq:((m/128:Nat):Int)=q at e5 e6 e7;have HQ:=Lib.hid hq;generalize hr:((m % 128:Nat):Int)=r at e1 e2 e3;clear hx hq hr h0;have HO:=Lib.hid (HP.out.own.alloc (.cells #[.int .u8 x] 5));have hE:=Lib.hid (Rd.one wr x (UInt8.ofNat (m % 128+128)) 5 hu.out);have h4:=Lib.hid (HP.out.b.alloc HP.out.b.size (.cells #[.int .u8 x] 5));go_wp2_with (first
       |(at_builtin
         refine wpList_app_any _ byteP rfl (.tmp 61) (.tmp 66) rfl w.heap.size _ done.length done rfl HO.out (wr.heap.size+1) (some ⟨wr.heap.size,0,none⟩) 1 1 [UInt8.ofNat (m % 128+128)] rfl hE.out hD.out h4.out.size ?_;intro A3 c3 w3 hh hl _ _ _;have hF:=Lib.hid hh;have hG:=Lib.hid (h4.out.grown hl h4.out.size (λg hg=>(HO.out.lt hg).2));clear hh hl)
       |fail)
      refine⟨⟨m/128,j,done++[UInt8.ofNat (m % 128+128)],by rw[HQ.out],⟨by rw[List.length_append];exact hF.out,hG.out,?_,HK.out.2.1,?_,?_⟩⟩,?_⟩
      · rw[HP.out.eq,HK.out.2.2.1,List.append_assoc];rfl
      · have h1:=HP.out.few;have h2:=HK.out.1;rw[List.length_append,List.length_singleton];clear e1 e2 e3 e4 e5 e6 e7;omega
      · have h1:=HP.out.k4;have h2:=HK.out.1;clear e1 e2 e3 e4 e5 e6 e7;omega
      · rw[<-HQ.out];exact HK.out.2.2.2
    · have hb:¬(128:Int)<=(m:Int):=by omega
      have h3:m<128:=by omega
      have hu:=Lib.hid (u8n m (by omega));have hD:=Lib.hid (show done.length+1<=140737488355328 from by have:=HP.out.few;omega);have hK:=Lib.hid (more_end (k:=k) h3);have e4:=rm5 m h3;have HO:=Lib.hid (HP.out.own.alloc (.cells #[.int .u8 (m:Int)] 5));have hE:=Lib.hid (Rd.one wr (m:Int) (UInt8.ofNat m) 5 hu.out);have h4:=Lib.hid (HP.out.b.alloc HP.out.b.size (.cells #[.int .u8 (m:Int)] 5));clear h0 h3;go_wp2_with (first
       |(at_builtin
         refine wpList_app_any _ byteP rfl (.tmp 70) (.tmp 73) rfl w.heap.size _ done.length done rfl HO.out (wr.heap.size+1) (some ⟨wr.heap.size,0,none⟩) 1 1 [UInt8.ofNat m] rfl hE.out hD.out h4.out.size ?_;intro A3 c3 w3 hh hl _ _ _;have hF:=Lib.hid hh;have hG:=Lib.hid (h4.out.grown hl h4.out.size (λg hg=>(HO.out.lt hg).2));clear hh hl)
       |fail)
      go_ret;rw[HP.out.eq,hK.out];have ho:(done++[UInt8.ofNat m]).length=done.length+1:=by rw[List.length_append];rfl
      exact⟨A3,c3,by rw[ho];rfl,by rw[ho];exact hF.out,hG.out⟩
theorem rputint_128_7 (n:Nat) (hn:n<=2147483647) (w:World):
 Calls Tryz.prog 48 #[.int .i64 128,.int .i64 7,.int .i64 (n:Nat)] w (PutPost (Hk.putI 128 7 n) w):=
 rputint_any 128 7 127 n (by decide) (by decide) (by decide) (by decide) hn w
theorem rputint_0_7 (n:Nat) (hn:n<=2147483647) (w:World):
 Calls Tryz.prog 48 #[.int .i64 0,.int .i64 7,.int .i64 (n:Nat)] w (PutPost (Hk.putI 0 7 n) w):=
 rputint_any 0 7 127 n (by decide) (by decide) (by decide) (by decide) hn w
theorem rputint_64_6 (n:Nat) (hn:n<=2147483647) (w:World):
 Calls Tryz.prog 48 #[.int .i64 64,.int .i64 6,.int .i64 (n:Nat)] w (PutPost (Hk.putI 64 6 n) w):=
 rputint_any 64 6 63 n (by decide) (by decide) (by decide) (by decide) hn w
theorem rputint_16_4 (n:Nat) (hn:n<=2147483647) (w:World):
 Calls Tryz.prog 48 #[.int .i64 16,.int .i64 4,.int .i64 (n:Nat)] w (PutPost (Hk.putI 16 4 n) w):=
 rputint_any 16 4 15 n (by decide) (by decide) (by decide) (by decide) hn w
theorem rputint_0_4 (n:Nat) (hn:n<=2147483647) (w:World):
 Calls Tryz.prog 48 #[.int .i64 0,.int .i64 4,.int .i64 (n:Nat)] w (PutPost (Hk.putI 0 4 n) w):=
 rputint_any 0 4 15 n (by decide) (by decide) (by decide) (by decide) hn w
end Go.Proofs.YtkpppjhbmnfmkaaGreatDoor
end

section
set_option maxHeartbeats 4000000
set_option maxRecDepth 100000
namespace Go.Proofs.YtkpppjhbmnfmkaaGreatDoor
open Lib (hid)
open Go.RowKit Go.Own Go.Own.Fr
attribute [local go_sem] Oper.semAt_some
theorem idx_i64 (s:ByteArray) (k:Nat) (hk:k<s.size) (W:World):(Instr.index 9 (.string s) (.int .i64 (k:Int))).run Tryz.prog W= .ok (.int .u8 ((s.data.toList.getD k 0).toNat:Int)) W:=by
 have ht:=Tryz.underlying9;have e:s.data.toList.getD k 0=s[k]:=by
  rw[List.getD,List.getElem?_eq_getElem (by simpa using hk)]
  rfl
 simp[Instr.index,run_underlying ht,asIntOf,hk,e]
 rfl
theorem idx_u8 (s:ByteArray) (k:Nat) (hk:k<s.size) (W:World):(Instr.index 9 (.string s) (.int .u8 (k:Int))).run Tryz.prog W= .ok (.int .u8 ((s.data.toList.getD k 0).toNat:Int)) W:=by
 have ht:=Tryz.underlying9;have e:s.data.toList.getD k 0=s[k]:=by
  rw[List.getD,List.getElem?_eq_getElem (by simpa using hk)]
  rfl
 simp[Instr.index,run_underlying ht,asIntOf,hk,e]
 rfl
theorem sz_all:(List.range 257).all (λi=>Nat.ble 5 (Hf.sz i)&&Nat.ble (Hf.sz i) 30)=true:=by kernel_rfl
theorem sz_bnd {i:Nat} (h:i<257):5<=Hf.sz i/\Hf.sz i<=30:=by
 have h1:=List.all_eq_true.1 sz_all i (List.mem_range.2 h);rw[Bool.and_eq_true]at h1;exact⟨Nat.le_of_ble_eq_true h1.1,Nat.le_of_ble_eq_true h1.2⟩
def sumZ (l:List UInt8):Nat:=(l.map λb=>Hf.sz b.toNat).sum
theorem sumZ_take (l:List UInt8) (k:Nat) (hk:k<l.length):sumZ (l.take (k+1))=sumZ (l.take k)+Hf.sz (l.getD k 0).toNat:=by
 unfold sumZ;rw[List.take_succ_eq_append_getElem hk,List.map_append,List.sum_append];simp[List.getD,hk]
theorem sumZ_le (l:List UInt8):sumZ l<=30*l.length:=by
 induction l with
 |nil=>exact Nat.zero_le _
 |cons b l ih=>
  have:=(sz_bnd (i:=b.toNat) (by have:=b.toNat_lt;omega)).2;simp only[sumZ,List.map_cons,List.sum_cons,List.length_cons]at ih ⊢;omega
theorem zs1 (z:Nat) (h:5<=z/\z<=30):IntKind.u8.wrap (((z+92:Nat):Int)-97)=((z-5:Nat):Int):=by rw[IntKind.wrap_u8];omega
theorem zs2 (a z:Nat) (h:a<=1000000000000) (h2:z<=30):wrap64 ((a:Int)+((z-5:Nat):Int))=((a+(z-5):Nat):Int):=by unfold wrap64;omega
theorem zs3 (a z:Nat) (h:a<=1000000000000) (h2:5<=z/\z<=30):wrap64 (((a+(z-5):Nat):Int)+5)=((a+z:Nat):Int):=by unfold wrap64;omega
theorem zs4 (i:Nat) (h:i<=1000000000000):wrap64 ((i:Int)+1)=((i+1:Nat):Int):=by unfold wrap64;omega
theorem zs5 (a:Nat) (h:a<=1000000000000):wrap64 ((a:Int)+7)=((a+7:Nat):Int):=by unfold wrap64;omega
theorem zs6 (a:Nat):Int.tdiv ((a:Nat):Int) 8=((a/8:Nat):Int):=by simp
theorem zs7 (a:Nat) (h:a<=2000000000000):wrap64 ((a/8:Nat):Int)=((a/8:Nat):Int):=by unfold wrap64;omega
theorem zsA (a z:Nat) (h:a<=1000000000000) (h2:5<=z/\z<=30):wrap64 ((a:Int)+((z-5:Nat):Int)+5)=((a+z:Nat):Int):=by unfold wrap64;omega
theorem zs9 (z:Nat) (h:z<=30):wrap64 ((z-5:Nat):Int)=((z-5:Nat):Int):=by unfold wrap64;omega
theorem zsT (a:Nat) (h:a<=1000000000000):wrap64 (Int.tdiv ((a:Int)+7) 8)=(((a+7)/8:Nat):Int):=by
 have h1:(a:Int)+7=((a+7:Nat):Int):=by omega
 rw[h1,zs6,zs7 _ (by omega)]
theorem zs8 (z:Nat) (h:z<=255):(UInt8.ofNat z).toNat=z:=by rw[UInt8.toNat_ofNat'];omega
def ZI (l:List UInt8) (t3 t5:Value):Prop:=∃i,i<=l.length/\t5= .int .i64 (i:Nat)/\t3= .int .i64 (sumZ (l.take i):Nat)
theorem rsize_any (s:ByteArray) (hs:s.size<=1000000000) (w:World):Calls Tryz.prog 129 #[.string s] w λe w'=>e= .returned (.int .i64 (((sumZ s.data.toList+7)/8:Nat):Int))/\w'=w:=by
 have HS:=hid hs;have h0:s.data.toList.length=s.size:=by simp
 have he:=hid h0;clear h0 hs;go_enter Tryz.func129,Tryz.ntmps129;go_wp2_with fail;refine(lengths_any w).mono ?_;rintro e w1 ⟨⟨sl,rfl,hl⟩,rfl⟩;have HL:=hid hl;clear hl;go_upto_region 4 with fail;go_loop [3,5] (λt3 t5=>ZI s.data.toList t3 t5) (λ_ t5=>s.size-toI t5)
 case atStart=>exact⟨0,Nat.zero_le _,rfl,rfl⟩
 case round=>
  obtain⟨i,hi,rfl,rfl⟩:=hrel;have h6:=he.out;have hsz:=HS.out;have h7:=sumZ_le (s.data.toList.take i);have h8:sumZ (s.data.toList.take i)<=30000000000:=by rw[List.length_take]at h7;omega
  by_cases h9:i<s.size
  · have hh:(i:Int)<(s.size:Int):=by omega
    have h1:=idx_i64 s i h9;obtain⟨c,hc⟩:∃c,s.data.toList.getD i 0=c:=⟨_,rfl⟩;have h5:=c.toNat_lt;have h2:=idx_u8 sl c.toNat (by rw[HL.out.size];omega);have h3:sl.data.toList.getD c.toNat 0=UInt8.ofNat (Hf.sz c.toNat+92):=by
     rw[List.getD,HL.out.at_ (by omega)];rfl
    have hb:=sz_bnd (i:=c.toNat) (by omega);have ht:=sumZ_take s.data.toList i (by omega);rw[hc]at h1 ht;rw[h3,zs8 _ (by omega)]at h2;have hf:=hid (show i+1<=s.data.toList.length/\s.size-(i+1)<s.size-i from⟨by omega,by omega⟩);have q1:sumZ (s.data.toList.take i)<=1000000000000:=by omega
    have q2:i<=1000000000000:=by omega
    have e1:=zs1 _ hb;have e2:=zs2 (sumZ (s.data.toList.take i)) _ q1 hb.2;have e3:=zs3 (sumZ (s.data.toList.take i)) _ q1 hb;have e4:=zs4 i q2;have e5:=zs9 _ hb.2;have e6:=zsA (sumZ (s.data.toList.take i)) _ q1 hb;rw[<-ht]at e6;have hd:=hid e6;clear e6;clear q1 q2;rw[<-ht]at e3;generalize hj:c.toNat=cn at*
    generalize hk:((Hf.sz cn+92:Nat):Int)=zz at*
    clear h3 hb ht h7 h8 h6 hsz h5 hi h9 hc hj hk;go_wp2_with fail;exact⟨⟨i+1,hf.out.1,by rw[e4],by first|rw[hd.out]|rw[e5,hd.out]|rw[e2,hd.out]|rw[e5,e2,e3]|rw[e2,e3]⟩,by rw[e4];exact hf.out.2⟩
  · have hh:¬(i:Int)<(s.size:Int):=by omega
    obtain rfl:i=s.size:=by omega
    have h4:s.data.toList.take s.size=s.data.toList:=by rw[<-h6];exact List.take_length
    rw[h4]at h8 ⊢;have q1:sumZ s.data.toList<=1000000000000:=by omega
    have q2:sumZ s.data.toList+7<=2000000000000:=by omega
    have e1:=zs5 (sumZ s.data.toList) q1;have HT:=hid (zsT (sumZ s.data.toList) q1);clear q1 q2;clear h4 h7 h8 h6 hsz hi h9;go_wp2_with fail;go_ret;refine⟨?_,rfl⟩;show Ending.returned (Value.int .i64 (wrap64 _))=_;rw[HT.out];first|rfl|simp
end Go.Proofs.YtkpppjhbmnfmkaaGreatDoor
end

section
namespace Go.Proofs.YtkpppjhbmnfmkaaGreatDoor
open Go.RowKit Go.Own Go.Own.Fr
theorem blz_len:∀(n c:Nat),(Hf.bl n c).length=n
 |0,_=>rfl
 |n+1,c=>by simp[Hf.bl,blz_len n]
theorem encB_len:∀l:List Nat,(Hf.encB l).length=(l.map Hf.sz).sum
 |[]=>rfl
 |s::l=>by simp[Hf.encB,Hf.codeB,blz_len,encB_len l]
theorem bitsH_len (s:List UInt8):(Hk.bitsH s).length=sumZ s:=by
 unfold Hk.bitsH Hk.nats sumZ;rw[encB_len,List.map_map]
 rfl
theorem sizeH_is (s:List UInt8):Hk.sizeH s=(sumZ s+7)/8:=by unfold Hk.sizeH;rw[bitsH_len]
end Go.Proofs.YtkpppjhbmnfmkaaGreatDoor
end

section
set_option maxHeartbeats 1000000
namespace Go.Proofs.YtkpppjhbmnfmkaaGreatDoor
open Lib (hid)
open Go.RowKit Go.Own Go.Own.Cx Go.Own.Fr
attribute [local go_sem] Oper.semAt_some
theorem r3a (a b:Nat) (h:a<=140737488355328) (k:b<=140737488355328):wrap64 ((a:Int)+(b:Int))=(a:Int)+(b:Int):=by unfold wrap64;omega
theorem r3b (a b:Nat) (h:a<=140737488355328) (k:b<=140737488355328):wrap64 ((a:Int)+(b:Int)+32)=((a+b+32:Nat):Int):=by unfold wrap64;omega
theorem r3size_any (hn hv:ByteArray) (ne:Bool) (w:World) (h1:hn.size<=140737488355328) (h2:hv.size<=140737488355328):Calls Tryz.prog 46 #[.agg #[.string hn,.string hv,.bool ne]] w λe w'=>e= .returned (.int .i64 ((hsz ⟨hn,hv,ne⟩:Nat):Int))/\Below w.heap.size w w':=by
 have e1:=r3a _ _ h1 h2;have HE:=hid (r3b _ _ h1 h2);have HX:=hid (Blk.new w 63 #[.string hn,.string hv,.bool ne]);have HB:=hid ((Below.refl w.heap.size w).alloc (Nat.le_refl _) (.cells #[.string hn,.string hv,.bool ne] 63));clear h1 h2;go_enter Tryz.func46,Tryz.ntmps46;go_upto_region 1 with fail;generalize w.alloc (.cells #[.string hn,.string hv,.bool ne] 63)=W0 at*
 have x0:=HX.out.cell 0;have x1:=HX.out.cell 1;simp only[List.getElem?_toArray,List.getElem?_cons_zero,List.getElem?_cons_succ]at x0 x1;go_wp2_with fail;go_ret;refine⟨?_,HB.out⟩;show Ending.returned (Value.int .i64 (wrap64 _))=_;first|rw[HE.out];rfl|(rw[e1,HE.out];rfl)
end Go.Proofs.YtkpppjhbmnfmkaaGreatDoor
end

section
set_option maxHeartbeats 8000000
set_option maxRecDepth 100000
namespace Go.Proofs.YtkpppjhbmnfmkaaGreatDoor
open Lib (hid)
open Go.RowKit Go.Own Go.Own.Hf
attribute [local go_sem] Oper.semAt_some
theorem info_u32:∃i,Tryz.prog.info? 229=some i/\i.zero=some (.int .u32 0)/\i.size=1/\i.bytes=4:=
 info_parts (show(Tryz.prog.info? 229).map (λi=>(i.zero,i.size,i.bytes))=some (some (.int .u32 0),1,4)by kernel_rfl)
theorem mk_codes:∃Z:Array Value,Z.size=257/\(∀i,i<257->Z[i]?=some (.int .u32 0))/\∀W:World,(Instr.makeSlice 226 (.int .i64 257) (.int .i64 257)).run Tryz.prog W= .ok (.slice (some ⟨W.heap.size,0,none⟩) 257 257) (W.alloc (.cells Z 229)):=by
 obtain⟨i,hi,hz,h1,h2⟩:=info_u32;refine⟨madeCells #[.int .u32 0] 257,by simp[size_madeCells],λi hi=>?_,λW=>run_make_row 226 229 i (.int .u32 0) Tryz.underlying226 hi hz h1 rfl .i64 .i64 257 (by rw[h2];decide) (by decide) W⟩;have hs:i<(madeCells #[Value.int .u32 0] 257).size:=by simpa [size_madeCells]using hi
 rw[Array.getElem?_eq_getElem hs];simp[madeCells,Nat.mod_one]
theorem idx_len {sl:ByteArray} (h:LenS sl) {i:Nat} (hi:i<257) (W:World):(Instr.index 9 (.string sl) (.int .i64 (i:Int))).run Tryz.prog W= .ok (.int .u8 ((sz i+92:Nat):Int)) W:=by
 have h1:=idx_i64 sl i (by rw[h.size];exact hi) W;have hb:=sz_bnd hi;have h3:sl.data.toList.getD i 0=UInt8.ofNat (Hf.sz i+92):=by
  rw[List.getD,h.at_ hi];rfl
 rw[h3,zs8 _ (by omega)]at h1;exact h1
def CodesP (w:World) (e:Ending) (w':World):Prop:=∃g,e= .returned (.slice (some ⟨g,0,none⟩) 257 257)/\Ct w' g 229 cd/\w.heap.size<=g/\Below w.heap.size w w'
theorem nx5:nx 4 257=0:=by kernel_rfl
theorem sz_ge5 {i:Nat} (hi:i<257) (j:Nat):¬(sz i<5\/(sz i=5/\i<0)):=by have:=sz_bnd hi;omega
theorem cs1 (z:Nat) (h:5<=z/\z<=30):wrap64 (((z-5:Nat):Int)+5)=(z:Int):=by unfold wrap64;omega
theorem rcodes_any (w:World):Calls Tryz.prog 165 #[] w (CodesP w):=by
 obtain⟨Z,hc,hd,ho⟩:=mk_codes;have HT:=hid (show Ct (w.alloc (.cells Z 229)) w.heap.size 229 (cdF 5 0)from⟨Z,Blk.new w _ Z,hc,λi hi=>by
  rw[hd i hi,cdF,if_neg (sz_ge5 hi 0)];rfl⟩)
 have HB:=hid ((Below.refl w.heap.size w).alloc (Nat.le_refl _) (.cells Z 229));clear hc hd;go_enter Tryz.func165,Tryz.ntmps165;go_upto_region 2 with fail;obtain⟨g,hg⟩:∃g,w.heap.size=g:=⟨_,rfl⟩;have HG:=hid hg;rw[hg]at HT HB ⊢;clear hg ho;generalize w.alloc (.cells Z 229)=W1 at*
 go_wp2_with fail;refine(lengths_any W1).mono ?_;rintro e w1 ⟨⟨sl,rfl,hl⟩,hw⟩;subst w1;have HL:=hid hl;clear hl;go_wp2_with fail;go_loopw [4,3] (λb x wr=>∃k:Nat,5<=k/\k<=31/\b= .int .i64 (k:Int)/\x= .int .u32 (nx (k-1) 257:Nat)/\Hid (Ct wr g 229 (cdF k 0)/\Below g w wr)) (λb _ _=>31-(intOf b).toNat)
 case atStart=>exact⟨5,by omega,by omega,rfl,by rw[nx5];rfl,hid ⟨HT.out,HB.out⟩⟩
 case round=>
  obtain⟨k,h5,hk,rfl,rfl,hh⟩:=hrel;by_cases hf:k<31
  · have hm:nx k 0=2*nx (k-1) 257:=by
     obtain⟨j,rfl⟩:∃j,k=j+1:=⟨k-1,by omega⟩;exact nx_next j
    have hq:=nx_le (b:=k-1) (s:=257) (by omega);have ht:IntKind.u32.wrap ((nx (k-1) 257:Nat)*2)=((nx k 0:Nat):Int):=by
     rw[hm];simp[IntKind.wrap,IntKind.bits,IntKind.signed];omega
    clear hm hq;generalize nx (k-1) 257=x0 at*
    obtain⟨y0,h6⟩:∃y,nx k 0=y:=⟨_,rfl⟩;rw[h6]at ht;have HY:=hid h6;have HH:=hid hh.out;have hE:(k:Int)<=30:=by omega
    have HK:=hid h5;clear h6 hh h5;go_wp2_with fail;go_loopw [5,3] (λs x ws=>∃j:Nat,j<=257/\s= .int .i64 (j:Int)/\x= .int .u32 (nx k j:Nat)/\Hid (Ct ws g 229 (cdF k j)/\Below g w ws)) (λs _ _=>257-(intOf s).toNat)
    case atStart=>exact⟨0,by omega,rfl,by rw[HY.out],hid HH.out⟩
    case round=>
     obtain⟨j,hj,rfl,rfl,hi⟩:=hrel;by_cases h0:j<257
     · have hu:=idx_len HL.out h0
       have h1:=nx_step (b:=k) h0;have h4:=cd_nx h0;have hn:=nx_le (b:=k) (s:=j+1) hf;have h2:=sz_bnd h0;have HE:=hid (And.intro (zs1 _ h2) (And.intro (zs9 _ h2.2) (cs1 _ h2)));have hH:(j:Int)<=256:=by omega
       have hI:wrap64 ((j:Int)+1)=((j+1:Nat):Int):=by unfold wrap64;omega
       by_cases he:sz j=k
       · rw[if_pos he]at h1
         rw[he]at h4 HE hu;have c0:=hi.out.1.cell h0;have f0:=hi.out.1.frozen j;have hJ:=hi.out.1.lt;have hb:IntKind.u32.wrap (((nx k j:Nat):Int)+1)=((nx k (j+1):Nat):Int):=by rw[h1];simp[IntKind.wrap,IntKind.bits,IntKind.signed];omega
         have HI:=hid ((hi.out.1.put j (nx k j)).same (g:=cdF k (j+1)) (λi _=>by
          unfold cdF;by_cases e:i=j
          · subst e;rw[if_pos rfl,if_pos (.inr ⟨he,by omega⟩),h4]
          · rw[if_neg e]
            by_cases e2:sz i<k\/(sz i=k/\i<j)
            · rw[if_pos e2,if_pos (e2.imp id λh=>⟨h.1,by omega⟩)]
            · rw[if_neg e2,if_neg (λh=>e2 (h.imp id λh=>⟨h.1,by omega⟩))]))
         have HJ:=hid (hi.out.2.setCell (p:=⟨g,j,none⟩) (by simp) (.int .u32 (nx k j:Nat)));clear h1 h4 hn hi he hj h2 h0;obtain⟨e1,e2,e3⟩:=HE.out;clear HE;generalize ((k+92:Nat):Int)=zz at*
         generalize ((k-5:Nat):Int)=y9 at*
         obtain⟨x2,h7⟩:∃y,nx k (j+1)=y:=⟨_,rfl⟩;rw[h7]at hb;have h8:=hid h7;clear h7;generalize nx k j=x1 at*
         go_wp2_with fail;go_roundw
         case rel=>exact⟨j+1,by omega,by go_num,by rw[h8.out],hid ⟨HI.out,HJ.out⟩⟩
         case measure=>simp[intOf];omega
       · rw[if_neg he]at h1
         have HI:=hid (hi.out.1.same (g:=cdF k (j+1)) (λi _=>by
          unfold cdF;by_cases e2:sz i<k\/(sz i=k/\i<j)
          · rw[if_pos e2,if_pos (e2.imp id λh=>⟨h.1,by omega⟩)]
          · rw[if_neg e2,if_neg (λh=>e2 (h.imp id λh=>⟨h.1,by
             rcases Nat.lt_or_ge i j with h3|h3
             · exact h3
             · have:i=j:=by omega
               subst this;exact absurd h.1 he⟩))]))
         have HJ:=hid hi.out.2;have h8:=hid h1;have hne:decide (sz j=k)=false:=by simp[he]
         have hF:¬sz j=k:=he;have hG:¬(sz j:Int)=(k:Int):=by omega
         clear h1 h4 hn hi he hj h2 h0;obtain⟨e1,e2,e3⟩:=HE.out;clear HE;generalize hA:nx k j=x1 at*
         clear hA;generalize sz j=q at*
         generalize ((q+92:Nat):Int)=zz at*
         generalize ((q-5:Nat):Int)=y9 at*
         go_wp2_with fail;go_roundw
         case rel=>exact⟨j+1,by omega,by go_num,by rw[h8.out];simp,hid ⟨HI.out,HJ.out⟩⟩
         case measure=>simp[intOf];omega
     · obtain rfl:j=257:=by omega
       have HI:=hid (hi.out.1.same (g:=cdF (k+1) 0) (λi hi=>by
        unfold cdF;by_cases e2:sz i<k\/(sz i=k/\i<257)
        · rw[if_pos e2,if_pos (by omega)]
        · rw[if_neg e2,if_neg (by omega)]))
       have HJ:=hid hi.out.2;have hK:wrap64 ((k:Int)+1)=((k+1:Nat):Int):=by unfold wrap64;omega
       obtain⟨y1,h9⟩:∃y,nx k 257=y:=⟨_,rfl⟩;have hC:=hid h9;rw[h9];clear hi h9 h0 hj;go_wp2_with fail;go_roundw
       case rel=>exact⟨k+1,by have:=HK.out;omega,by omega,by go_num,by rw[<-hC.out];rfl,hid ⟨HI.out,HJ.out⟩⟩
       case measure=>simp[intOf];omega
  · obtain rfl:k=31:=by omega
    have HC:=hid (hh.out.1.same (g:=cd) (λi hi=>by rw[cdF,if_pos (.inl (by have:=sz_in hi;omega))]));have hD:=hid hh.out.2;clear hh hf hk h5;go_wp2_with fail;go_ret;exact⟨_,rfl,HC.out,by rw[HG.out];exact Nat.le_refl _,by rw[HG.out];exact hD.out⟩
end Go.Proofs.YtkpppjhbmnfmkaaGreatDoor
end

section
set_option maxHeartbeats 8000000
set_option maxRecDepth 100000
namespace Go.Proofs.YtkpppjhbmnfmkaaGreatDoor
open Lib (hid)
open Go.RowKit Go.Own Go.Own.Hf
attribute [local go_sem] Oper.semAt_some
theorem Ct_below {W W':World} {pb B:Nat} {t:TypeId} {f:Nat->Nat} (h:Ct W pb t f) (hb:Below B W W') (hl:pb<B):Ct W' pb t f:=by
 obtain⟨cs,h1,h2,h3⟩:=h;exact⟨cs,h1.below hb hl,h2,h3⟩
theorem modw (q:Nat) (h:q<256):(q:Int) % 256=(q:Int):=by omega
structure EJ (w:World) (cg:Nat) (L:List Bool) (out:List UInt8) (x n:Nat) (t5 t6 t7:Value) (wr:World):Prop where
 inv:EncI L out x n
 t6:t6= .int .u64 (x:Nat)
 t7:t7= .int .i64 (n:Nat)
 own:Ow wr w.heap.size 5 t5 out.length out
 bel:Below w.heap.size w wr
theorem uw1 (z:Nat) (h:z<=1000):IntKind.u64.wrap (z:Int)=(z:Int):=by simp[IntKind.wrap,IntKind.bits,IntKind.signed];omega
theorem uw2 (z:Nat) (h:z<18446744073709551616):IntKind.u64.wrap (z:Int)=(z:Int):=by simp[IntKind.wrap,IntKind.bits,IntKind.signed];omega
theorem uw3 (z:Nat) (h0:0<z) (h:z<18446744073709551616):IntKind.u64.wrap ((z:Int)-1)=((z-1:Nat):Int):=by simp[IntKind.wrap,IntKind.bits,IntKind.signed];omega
theorem wsub8 (n:Nat) (h:8<=n) (h2:n<=1000):wrap64 ((n:Int)-8)=((n-8:Nat):Int):=by unfold wrap64;omega
theorem wadd (n z:Nat) (h:n<=1000) (h2:z<=1000):wrap64 ((n:Int)+(z:Int))=((n+z:Nat):Int):=by unfold wrap64;omega
theorem wrev8 (n:Nat) (h:n<=8):wrap64 (8-(n:Int))=((8-n:Nat):Int):=by unfold wrap64;omega
theorem u8w (n:Nat) (h:n<256):IntKind.u8.wrap (n:Int)=(n:Int):=by rw[IntKind.wrap_u8];omega
theorem enc_take (l:List UInt8) (i:Nat) (h:i<l.length):encB (Hk.nats (l.take (i+1)))=encB (Hk.nats (l.take i))++codeB (l.getD i 0).toNat:=by
 rw[List.take_succ_eq_append_getElem h];unfold Hk.nats;rw[List.map_append,encB_app]
 congr 1
 simp[List.getD,h,encB]
theorem encB_sum (l:List UInt8):(encB (Hk.nats l)).length=sumZ l:=bitsH_len l
theorem pow_bnd {x n z:Nat} (hx:x<2^n) (hn:n<=7) (hz:z<=30) (c:Nat) (hc:c<2^z):x*2^z+c<18446744073709551616/\x*2^z<18446744073709551616:=by
 have h1:2^n<=2^7:=Nat.pow_le_pow_right (by omega) hn;have h2:2^z<=2^30:=Nat.pow_le_pow_right (by omega) hz;have e1:(2:Nat)^7=128:=rfl;have e2:(2:Nat)^30=1073741824:=rfl;have h3:x*2^z<=128*1073741824:=Nat.mul_le_mul (by omega) (by omega);omega
theorem pow_le37 {x n:Nat} (hx:x<2^n) (hn:n<=37):x<18446744073709551616:=by
 have h1:2^n<=2^37:=Nat.pow_le_pow_right (by omega) hn;have e1:(2:Nat)^37=137438953472:=rfl;omega
theorem pow_63 {n:Nat} (hn:n<=63):2^n<18446744073709551616/\0<2^n:=by
 have h1:2^n<=2^63:=Nat.pow_le_pow_right (by omega) hn;have e1:(2:Nat)^63=9223372036854775808:=rfl;exact⟨by omega,Nat.pow_pos (by omega)⟩
theorem rencode_any (s:ByteArray) (hs:s.size<=1000000000) (w:World):Calls Tryz.prog 130 #[.string s] w (PutPost (Hk.encH s.data.toList) w):=by
 have h4:s.data.toList.length=s.size:=by simp
 have HH:=hid (And.intro h4 hs);clear h4 hs;go_enter Tryz.func130,Tryz.ntmps130;go_wp2_with fail;refine(rcodes_any w).mono ?_;rintro e w1 ⟨g,rfl,hO,hg,hP⟩;have HC:=hid hO;have hD:=hid hP;clear hO hP hg;go_wp2_with fail;refine(lengths_any w1).mono ?_;rintro e w2 ⟨⟨sl,rfl,hl⟩,hw⟩;subst w2;have HL:=hid hl;clear hl;have h5:∀e w',PutPost (Hk.encH s.data.toList) w1 e w'->PutPost (Hk.encH s.data.toList) w e w':=λe w' h=>by
  obtain⟨A,c,e1,h1,h2⟩:=h;exact⟨A,c,e1,h1.base hD.out.size,hD.out.trans (h2.mono hD.out.size)⟩
 have hQ:=hid h5;clear h5;go_upto_region 7 with fail;go_loopw [5,6,7,8] (λt5 t6 t7 t8 wr=>∃(i:Nat) (out:List UInt8) (x n:Nat),i<=s.size/\n<8/\t8= .int .i64 (i:Nat)/\Hid (EJ w1 g (encB (Hk.nats (s.data.toList.take i))) out x n t5 t6 t7 wr)) (λ_ _ _ t8 _=>s.size-(intOf t8).toNat)
 case atStart=>exact⟨0,[],0,0,Nat.zero_le _,by decide,rfl,hid ⟨EncI.nil,rfl,rfl,⟨rfl,.inl ⟨rfl,rfl⟩⟩,Below.refl _ _⟩⟩
 case round=>
  obtain⟨i,out,x,n,hi,hn,rfl,hh⟩:=hrel;obtain⟨rfl,rfl⟩:=And.intro hh.out.t6 hh.out.t7;by_cases hd:i<s.size
  · have hX:(i:Int)<(s.size:Int):=by omega
    have h1:=idx_i64 s i hd;have hE:=enc_take s.data.toList i (by rw[HH.out.1];exact hd);obtain⟨c,hc⟩:∃c,s.data.toList.getD i 0=c:=⟨_,rfl⟩;rw[hc]at h1 hE;have hu:=c.toNat_lt;have h2:=idx_u8 sl c.toNat (by rw[HL.out.size];omega);have h3:sl.data.toList.getD c.toNat 0=UInt8.ofNat (Hf.sz c.toNat+92):=by
     rw[List.getD,HL.out.at_ (by omega)];rfl
    have he:=sz_bnd (i:=c.toNat) (by omega);rw[h3,zs8 _ (by omega)]at h2;have hA:=cd_lt (s:=c.toNat) (by omega);have hY:=(Ct_below HC.out hh.out.bel HC.out.lt).cell (i:=c.toNat) (by omega);have hR:=hh.out.inv.lt;have h7:=hh.out.inv.sym c.toNat hA;rw[<-hE]at h7;have hZ:=hid h7;have hF:=pow_bnd hR (by omega) he.2 _ hA;have hS:=hid (show i+1<=s.size/\s.size-(i+1)<s.size-i from⟨by omega,by omega⟩);have hN:=hid (show n+sz c.toNat<=37 by omega);have Hm:(c.toNat:Int)<257:=by omega
    have Hj:(0:Int)<=(c.toNat:Int):=by omega
    have a1:sz c.toNat<=1000:=by omega
    have a2:cd c.toNat<18446744073709551616:=by omega
    have a3:sz c.toNat<=63:=by omega
    have a4:n<=1000:=by omega
    have a5:i<=1000000000000:=by have:=HH.out;omega
    have e1:=zs1 _ he;have e2:=zs9 _ he.2;have e3:=cs1 _ he;have e4:=uw1 (sz c.toNat) a1;have H0:=uw2 (cd c.toNat) a2;have hT:=shl_w x (sz c.toNat) a3 hF.2;have hU:=or_u64 x (cd c.toNat) (sz c.toNat) hA hF.1;have hV:=wadd n (sz c.toNat) a4 a1;have ej:=zs4 i a5;clear a1 a2 a3 a4 a5;have HO:=hid hh.out.own;have HB:=hid hh.out.bel;clear hE hc h7 hF hR h3 he hA hd hi hn hh hu;generalize H1:c.toNat=cn at*
    clear H1;generalize H2:((Hf.sz cn+92:Nat):Int)=zz at*
    generalize H3:((Hf.sz cn-5:Nat):Int)=z5 at*
    generalize H4:x*2^sz cn+cd cn=y2 at*
    generalize H5:x*2^sz cn=y1 at*
    generalize H7:n+sz cn=n2 at*
    clear H2 H3 H4 H5 H7;generalize sz cn=z at*
    go_wp2_with fail;have H8:=hid hV;clear hV e1 e2 e3 e4 H0 hT hU h1 h2 hY;go_loopw [5,6,7] (λt5 t6 t7 wr=>∃(out:List UInt8) (x n:Nat),n<=37/\Hid (EJ w1 g (encB (Hk.nats (s.data.toList.take (i+1)))) out x n t5 t6 t7 wr)) (λ_ _ t7 _=>(intOf t7).toNat)
    case atStart=>exact⟨out,y2,n2,hN.out,hid ⟨hZ.out,rfl,by first|rfl|rw[H8.out],HO.out,HB.out⟩⟩
    case round=>
     obtain⟨out2,x2,m,h9,hk⟩:=hrel;obtain⟨rfl,rfl⟩:=And.intro hk.out.t6 hk.out.t7;by_cases h8:8<=m
     · have H9:(8:Int)<=(m:Int):=by omega
       have hf:=hk.out.inv.byte h8;have h4:=hk.out.inv.len;rw[encB_sum]at h4;have hsz:=sumZ_le (s.data.toList.take (i+1));rw[List.length_take]at hsz;have ht:=pow_le37 hk.out.inv.lt h9;have hG:=hid (show out2.length+1<=140737488355328 by have:=HH.out;omega);have a1:m<=1000:=by omega
       have a2:m-8<=1000:=by omega
       have a3:m-8<=63:=by omega
       have a4:m-8<64:=by omega
       have hH:=hid (show m-8<m/\m-8<=37 from⟨by omega,by omega⟩);have k1:=wsub8 m h8 a1;have k2:=uw1 (m-8) a2;have Ha:=shr_w x2 (m-8) a3;have Hb:((x2/2^(m-8):Nat):Int) % 256=((x2/2^(m-8):Nat):Int):=modw _ hf.1;have k3:=u8w _ hf.1;have hp:=pow_63 (n:=m-8) a3;have Hn:=one_w (m-8) a3;have k4:=uw3 (2^(m-8)) hp.2 hp.1;have Hl:=and_u64 x2 (m-8) a4 ht;clear a1 a2 a3 a4;have Hc:=hid hf.2;have hI:=hid (u8n (x2/2^(m-8)) hf.1);clear hf h4 hsz hp h9 ht;generalize hq:x2/2^(m-8)=q at*
       generalize hr:x2 % 2^(m-8)=r at*
       generalize He:2^(m-8)-1=p1 at*
       generalize hp:2^(m-8)=p at*
       generalize Hg:m-8=m2 at*
       clear hq hr He hp Hg h8;have HO:=hid (hk.out.own.alloc (.cells #[.int .u8 (q:Int)] 5));have hJ:=hid (Rd.one wr (q:Int) (UInt8.ofNat q) 5 hI.out);have h6:=hid (hk.out.bel.alloc hk.out.bel.size (.cells #[.int .u8 (q:Int)] 5));obtain⟨A1,c1,e5,_,_,_⟩:=hk.out.own.form;subst e5;clear hk;go_wp2_with (first
        |(at_builtin
          refine wpList_app_any _ byteP rfl (.tmp 43) (.tmp 50) rfl w1.heap.size _ out2.length out2 rfl HO.out (wr.heap.size+1) (some ⟨wr.heap.size,0,none⟩) 1 1 [UInt8.ofNat q] rfl hJ.out hG.out h6.out.size ?_;intro A3 c3 w3 hj hm _ _ _;have hK:=hid hj;have hL:=hid (h6.out.grown hm h6.out.size (λg hg=>(HO.out.lt hg).2));clear hj hm)
        |fail)
       go_roundw
       case rel=>exact⟨out2++[UInt8.ofNat q],r,m2,hH.out.2,hid ⟨Hc.out,rfl,by first|rfl|rw[k1],by rw[List.length_append];exact hK.out,hL.out⟩⟩
       case measure=>first|exact hH.out.1|(rw[k1];exact hH.out.1)
     · have H9:¬(8:Int)<=(m:Int):=by omega
       have Hh:=hid (show m<8 by omega);have HK:=hid hk.out;clear h8 hk h9;go_wp2_with fail;go_roundw
       case rel=>exact⟨i+1,out2,x2,m,hS.out.1,Hh.out,by rw[ej],hid HK.out⟩
       case measure=>rw[ej];simp only[intOf];have:=hS.out.2;omega
  · obtain rfl:i=s.size:=by omega
    have hX:¬((s.size:Nat):Int)<(s.size:Int):=by omega
    have hb:s.data.toList.take s.size=s.data.toList:=by rw[<-HH.out.1];exact List.take_length
    rw[hb]at hh;by_cases h0:n=0
    · subst h0
      have HV:=hid (show out=Hk.encH s.data.toList from hh.out.inv.whole);have HO:=hid hh.out.own;have HB:=hid hh.out.bel;obtain⟨A1,c1,e5,_,_,_⟩:=hh.out.own.form;subst e5;clear hh hb hi hd hn;go_wp2_with fail;go_ret;refine hQ.out _ _ ?_;rw[<-HV.out];exact⟨_,_,rfl,HO.out,HB.out⟩
    · have Ho:(0:Int)<(n:Int):=by omega
      have hC:=hh.out.inv.last hn (by omega);have h4:=hh.out.inv.len;rw[encB_sum]at h4;have hsz:=sumZ_le s.data.toList;have hG:=hid (show out.length+1<=140737488355328 by have:=HH.out;omega);have hM:x*2^(8-n)<256:=by omega
      have a1:n<=8:=by omega
      have a2:8-n<=1000:=by omega
      have a3:n<=1000:=by omega
      have a4:8-n<=63:=by omega
      have a5:x*2^(8-n)<18446744073709551616:=by omega
      have a6:0<n:=by omega
      have hU:=or_u8 x (2^(8-n)-1) (8-n) (Nat.sub_lt (Nat.pow_pos (by decide)) (by decide)) hC.1;have k1:=wrev8 n a1;have k2:=uw1 (8-n) a2;have k5:=uw1 n a3;have hT:=shl_w x (8-n) a4 a5;have Hb:((x*2^(8-n):Nat):Int) % 256=((x*2^(8-n):Nat):Int):=modw _ hM;have k3:=u8w _ hM;have Ha:=shr_255w n a6 hn;clear a1 a2 a3 a4 a5 a6;have HV:=hid (show out++[UInt8.ofNat (x*2^(8-n)+(2^(8-n)-1))]=Hk.encH s.data.toList from hC.2);have hI:=hid (u8n _ hC.1);have Hi:=hid hh.out.own;have hW:=hid hh.out.bel;obtain⟨A1,c1,e5,_,_,_⟩:=hh.out.own.form;subst e5;clear hh hb hi hd hC h4 hsz hM hn h0;generalize hq:x*2^(8-n)+(2^(8-n)-1)=q at*
      generalize hy:x*2^(8-n)=y at*
      generalize ho:2^(8-n)-1=o at*
      generalize hr:8-n=r at*
      clear hq hy ho hr;have HO:=hid (Hi.out.alloc (.cells #[.int .u8 (q:Int)] 5));have hJ:=hid (Rd.one wr (q:Int) (UInt8.ofNat q) 5 hI.out);have h6:=hid (hW.out.alloc hW.out.size (.cells #[.int .u8 (q:Int)] 5));go_wp2_with (first
       |(at_builtin
         refine wpList_app_any _ byteP rfl (.tmp 62) (.tmp 73) rfl w1.heap.size _ out.length out rfl HO.out (wr.heap.size+1) (some ⟨wr.heap.size,0,none⟩) 1 1 [UInt8.ofNat q] rfl hJ.out hG.out h6.out.size ?_;intro A3 c3 w3 hj hm _ _ _;have hK:=hid hj;have hL:=hid (h6.out.grown hm h6.out.size (λg hg=>(HO.out.lt hg).2));clear hj hm)
       |fail)
      go_ret;refine hQ.out _ _ ?_;rw[<-HV.out];have h4:(out++[UInt8.ofNat q]).length=out.length+1:=by rw[List.length_append];rfl
      exact⟨A3,c3,by rw[h4];rfl,by rw[h4];exact hK.out,hL.out⟩
end Go.Proofs.YtkpppjhbmnfmkaaGreatDoor
end

section
set_option maxHeartbeats 4000000
set_option maxRecDepth 100000
namespace Go.Proofs.YtkpppjhbmnfmkaaGreatDoor
open Lib (hid)
open Go.RowKit Go.Own Go.Own.Hf
attribute [local go_sem] Oper.semAt_some
theorem str_cells (s:ByteArray):Lib.strCells s=s.data.toList.map bv:=by
 simp[Lib.strCells,bv]
theorem wpList_app_str {ops:Array Oper} {rest:List Oper} {o:Oper} {a:Act} {Q:Exit->Act->World->Prop} (w:World) (hgd:o.guard=none) (sl x:Operand)
 (ho:o.op= .call {callee:=.builtin .append,args:=#[sl,x],argTypes:=#[22,9]})
 (base:Nat) (v:Value) (n:Nat) (l:List UInt8) (hs:a.eval sl=v) (hown:Ow w base 5 v n l) (s:ByteArray) (hx:a.eval x= .string s) (hb:n+s.size<=140737488355328) (hbase:base<=w.heap.size)
 (h:∀A' c' w',Ow w' base 5 (.slice A' (n+s.size) c') (n+s.size) (l++s.data.toList)->w.grownBy w' v.ownBlock->wpList Tryz.prog ops Q rest (a.put o.dst (.slice A' (n+s.size) c')) w'):wpList Tryz.prog ops Q (o::rest) a w:=by
 obtain⟨i0,hi,h0,h3,h4⟩:=info_parts byteInfo;refine Lib.wpList_append_own_string _ hgd sl x 22 9 ho base 5 i0 Tryz.underlying22 Tryz.underlying9 hi h0 h3 h4 v n (l.map bv) hs hown s hx (by unfold maxLen;omega) hb hbase λv' w' h1 h2 _=>?_;rw[str_cells,<-List.map_append]at h1;have h1:Ow w' base 5 v' (n+s.size) (l++s.data.toList):=h1;obtain⟨A',c',rfl,_⟩:=h1.form;exact h A' c' w' h1 h2
theorem rputText_any (s:ByteArray) (hs:s.size<=1000000000) (w:World):Calls Tryz.prog 85 #[.string s] w (PutPost (Hk.putT s.data.toList) w):=by
 have h0:s.data.toList.length=s.size:=by simp
 have HS:=hid (λW=>rsize_any s hs W);have hz:=sumZ_le s.data.toList;have hsz:=sizeH_is s.data.toList;have HL:=hid h0;rw[<-hsz]at HS;by_cases h8:Hk.sizeH s.data.toList<s.size
 · have HV:=hid (show Hk.putT s.data.toList=Hk.putI 128 7 (Hk.sizeH s.data.toList)++Hk.encH s.data.toList by unfold Hk.putT;rw[if_pos (by rw[h0];exact h8)])
   have HE:=hid (λW=>rencode_any s hs W);have hn:Hk.sizeH s.data.toList<=2147483647:=by omega
   have h9:=hid (λW=>rputint_128_7 (Hk.sizeH s.data.toList) hn W);have hb:=Hk.putI_len 128 7 (Hk.sizeH s.data.toList);have HB:=hid (show(Hk.putI 128 7 (Hk.sizeH s.data.toList)).length+(Hk.encH s.data.toList).length<=140737488355328 by rw[Hk.encH_len];omega);have hc:(Hk.sizeH s.data.toList:Int)<(s.size:Int):=by omega
   clear hs h0 hz hsz h8 hn hb;generalize Hk.putI 128 7 (Hk.sizeH s.data.toList)=p at*
   generalize Hk.encH s.data.toList=q at*
   generalize Hk.putT s.data.toList=r at*
   generalize Hk.sizeH s.data.toList=k at*
   have hd:=hid HV.out;clear HV;go_enter Tryz.func85,Tryz.ntmps85;go_wp2_with fail;refine(HS.out w).mono ?_;rintro e w1 ⟨rfl,hw⟩;subst w1;go_wp2_with fail;refine(h9.out w).mono ?_;rintro e w2 ⟨A2,c2,rfl,h2,h3⟩;have h4:=hid h2;have h1:=hid h3;clear h2 h3;go_wp2_with fail;refine(HE.out w2).mono ?_;rintro e w3 ⟨A3,c3,rfl,hj,he⟩;have hk:=hid hj;have hf:=hid (h1.out.trans (he.mono h1.out.size));have h7:=hid (h4.out.below he (λg hg=>(h4.out.lt hg).1));clear hj he;go_wp2_with (first
    |(at_builtin
      refine wpList_app_any _ byteP rfl (.tmp 11) (.tmp 13) rfl w.heap.size _ p.length p rfl h7.out w3.heap.size A3 q.length c3 q rfl hk.out.rd HB.out hf.out.size ?_;intro A4 c4 w4 h5 h6 _ _ _;have hh:=hid h5;have hi:=hid (hf.out.grown h6 hf.out.size (λg hg=>(h7.out.lt hg).2));clear h5 h6)
    |fail)
   go_ret;rw[hd.out];exact⟨A4,c4,by rw[List.length_append];rfl,by rw[List.length_append];exact hh.out,hi.out⟩
 · have HV:=hid (show Hk.putT s.data.toList=Hk.putI 0 7 s.size++s.data.toList by unfold Hk.putT;rw[if_neg (by rw[h0];exact h8),h0])
   have h9:=hid (λW=>rputint_0_7 s.size (by omega) W);have hb:=Hk.putI_len 0 7 s.size;have HB:=hid (show(Hk.putI 0 7 s.size).length+s.size<=140737488355328 by omega);have hc:¬(Hk.sizeH s.data.toList:Int)<(s.size:Int):=by omega
   clear hs h0 hz hsz h8 hb;generalize Hk.putI 0 7 s.size=p at*
   generalize Hk.putT s.data.toList=r at*
   generalize Hk.sizeH s.data.toList=k at*
   have hd:=hid HV.out;clear HV;go_enter Tryz.func85,Tryz.ntmps85;go_wp2_with fail;refine(HS.out w).mono ?_;rintro e w1 ⟨rfl,hw⟩;subst w1;go_wp2_with fail;refine(h9.out w).mono ?_;rintro e w2 ⟨A2,c2,rfl,h2,h3⟩;have h4:=hid h2;have h1:=hid h3;clear h2 h3;go_wp2_with (first
    |(at_builtin
      refine wpList_app_str _ rfl (.tmp 17) (.tmp 18) rfl w.heap.size _ p.length p rfl h4.out s rfl HB.out h1.out.size ?_;intro A4 c4 w4 h5 h6;have hh:=hid h5;have hi:=hid (h1.out.grown h6 h1.out.size (λg hg=>(h4.out.lt hg).2));clear h5 h6)
    |fail)
   go_ret;rw[hd.out];have hl:(p++s.data.toList).length=p.length+s.size:=by rw[List.length_append,HL.out]
   exact⟨A4,c4,by rw[hl];rfl,by rw[hl];exact hh.out,hi.out⟩
end Go.Proofs.YtkpppjhbmnfmkaaGreatDoor
end
