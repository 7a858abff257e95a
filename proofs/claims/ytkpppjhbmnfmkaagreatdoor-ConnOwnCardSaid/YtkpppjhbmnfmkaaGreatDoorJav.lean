/-
  
  
  
  
  
  
  
  
  
  
  
  
-/
import Derived.Test.YtkpppjhbmnfmkaaGreatDoorJac
import Derived.Test.YtkpppjhbmnfmkaaGreatDoorJab
import Derived.Test.YtkpppjhbmnfmkaaGreatDoorJag
import Derived.Test.YtkpppjhbmnfmkaaGreatDoorJaa
import Derived.Deep.OwnRows
import Derived.Lib.AppendStr
set_option linter.unusedSimpArgs false
set_option linter.unusedVariables false
section
set_option maxHeartbeats 4000000
set_option maxRecDepth 100000
namespace Go.Proofs.YtkpppjhbmnfmkaaGreatDoor
open Lib (hid)
open Go.RowKit Go.Own Go.Own.Fr
attribute [local go_sem] Oper.semAt_some
theorem arr66 (t:Array Value) (h:t.size=66):t=(t.getD 0 undef::t.getD 1 undef::t.getD 2 undef::t.getD 3 undef::t.getD 4 undef::t.getD 5 undef::t.getD 6 undef::t.getD 7 undef::t.getD 8 undef::t.getD 9 undef::t.getD 10 undef::t.getD 11 undef::t.getD 12 undef::t.getD 13 undef::t.getD 14 undef::t.getD 15 undef::t.getD 16 undef::t.getD 17 undef::t.getD 18 undef::t.getD 19 undef::t.getD 20 undef::t.getD 21 undef::t.getD 22 undef::t.getD 23 undef::t.getD 24 undef::t.getD 25 undef::t.getD 26 undef::t.getD 27 undef::t.getD 28 undef::t.getD 29 undef::t.getD 30 undef::t.getD 31 undef::t.getD 32 undef::t.getD 33 undef::t.getD 34 undef::t.getD 35 undef::t.getD 36 undef::t.getD 37 undef::t.getD 38 undef::t.getD 39 undef::t.getD 40 undef::t.getD 41 undef::t.getD 42 undef::t.getD 43 undef::t.getD 44 undef::t.getD 45 undef::t.getD 46 undef::t.getD 47 undef::t.getD 48 undef::t.getD 49 undef::t.getD 50 undef::t.getD 51 undef::t.getD 52 undef::t.getD 53 undef::t.getD 54 undef::t.getD 55 undef::t.getD 56 undef::t.getD 57 undef::t.getD 58 undef::t.getD 59 undef::t.getD 60 undef::t.getD 61 undef::t.getD 62 undef::t.getD 63 undef::t.getD 64 undef::t.getD 65 undef::[]).toArray:=by
 exact arr_gen t 66 h
structure IA (a:Act) (v0 v8 v9:Value):Prop where
 dfr:a.defers=[]
 size:a.tmps.size=66
 s0:a.tmps.getD 0 undef=v0
 s8:a.tmps.getD 8 undef=v8
 s9:a.tmps.getD 9 undef=v9
theorem IA.lit {a:Act} {v0 v8 v9:Value} (h:IA a v0 v8 v9):∃u:Nat->Value,a={tmps:=(v0::u 1::u 2::u 3::u 4::u 5::u 6::u 7::v8::v9::u 10::u 11::u 12::u 13::u 14::u 15::u 16::u 17::u 18::u 19::u 20::u 21::u 22::u 23::u 24::u 25::u 26::u 27::u 28::u 29::u 30::u 31::u 32::u 33::u 34::u 35::u 36::u 37::u 38::u 39::u 40::u 41::u 42::u 43::u 44::u 45::u 46::u 47::u 48::u 49::u 50::u 51::u 52::u 53::u 54::u 55::u 56::u 57::u 58::u 59::u 60::u 61::u 62::u 63::u 64::u 65::[]).toArray,defers:=[]}:=by
 refine⟨λk=>a.tmps.getD k undef,?_⟩;obtain⟨t,df⟩:=a;obtain⟨h1,hz,e0,e8,e9⟩:=h;have h2:=arr66 t hz;simp only at h1 e0 e8 e9;rw[h1]
 congr 1
 rw[e0,e8,e9]at h2;exact h2
theorem lit66 {a:Act} (h1:a.defers=[]) (hz:a.tmps.size=66):∃u:Nat->Value,a={tmps:=(u 0::u 1::u 2::u 3::u 4::u 5::u 6::u 7::u 8::u 9::u 10::u 11::u 12::u 13::u 14::u 15::u 16::u 17::u 18::u 19::u 20::u 21::u 22::u 23::u 24::u 25::u 26::u 27::u 28::u 29::u 30::u 31::u 32::u 33::u 34::u 35::u 36::u 37::u 38::u 39::u 40::u 41::u 42::u 43::u 44::u 45::u 46::u 47::u 48::u 49::u 50::u 51::u 52::u 53::u 54::u 55::u 56::u 57::u 58::u 59::u 60::u 61::u 62::u 63::u 64::u 65::[]).toArray,defers:=[]}:=by
 refine⟨λk=>a.tmps.getD k undef,?_⟩;obtain⟨t,df⟩:=a;have h2:=arr66 t hz;simp only at h1;rw[h1]
 congr 1
theorem and_u8m (a:Nat) (ha:a<256):bits .and .u8 (a:Int) 127=((a % 128:Nat):Int):=by
 show IntKind.u8.wrap ((BitVec.ofInt 8 (a:Int)&&& BitVec.ofInt 8 127).toNat:Int)=_;have h1:(BitVec.ofInt 8 (a:Int)).toNat=a:=by rw[BitVec.ofInt_natCast,BitVec.toNat_ofNat];exact Nat.mod_eq_of_lt (by omega)
 have h2:(BitVec.ofInt 8 127).toNat=127:=rfl;have h3:a&&& 127=a % 128:=Nat.and_two_pow_sub_one_eq_mod a 7;rw[BitVec.toNat_and,h1,h2,h3];have h4:a % 128<128:=Nat.mod_lt _ (by omega);generalize a % 128=y at*
 simp[IntKind.wrap,IntKind.bits,IntKind.signed];omega
theorem shl7 (P:Program) (y i:Nat) (hy:y<=127) (h1:1<=i) (h5:i<=5) (W:World):(Op.shift .shl .i64 (y:Int) .i64 (wrap64 (7*wrap64 ((i:Int)-1)))).run P W= .ok (.int .i64 ((y*2^(7*(i-1)):Nat):Int)) W:=by
 have e1:wrap64 ((i:Int)-1)=((i-1:Nat):Int):=by unfold wrap64;omega
 have e2:wrap64 (7*((i-1:Nat):Int))=((7*(i-1):Nat):Int):=by unfold wrap64;omega
 have hd:7*(i-1)<=28:=by omega
 rw[e1,e2];generalize 7*(i-1)=d at*
 have hp:y*2^d<=127*268435456:=Nat.mul_le_mul hy (Nat.le_trans (Nat.pow_le_pow_right (by omega) hd) (by decide));have hm:min (d:Int).toNat IntKind.i64.bits=d:=by show min (d:Int).toNat 64=d;omega
 have hc:(y:Int)*2^d=((y*2^d:Nat):Int):=by rw[Int.natCast_mul];congr 1
 unfold Op.shift;rw[if_neg (by omega)];simp only[hm,hc];show(pure (Value.int .i64 (IntKind.i64.wrap ((y*2^d:Nat):Int))):Sem Value).run P W=_;generalize y*2^d=z at*
 have hz:IntKind.i64.wrap (z:Int)=(z:Int):=by rw[IntKind.wrap_i64];omega
 rw[hz]
 rfl
theorem zbound {x acc i:Nat} (hx:x<=127) (h1:1<=i) (h5:i<=5) (ha:acc<=255*2^(7*(i-1))):acc+x*2^(7*(i-1))<=200000000000:=by
 have hp:2^(7*(i-1))<=268435456:=Nat.le_trans (Nat.pow_le_pow_right (by omega) (show 7*(i-1)<=28 by omega)) (by decide);generalize 2^(7*(i-1))=p at*
 have:=Nat.mul_le_mul hx hp;have:=Nat.mul_le_mul (Nat.le_refl 255) hp;omega
theorem accbound {y acc i:Nat} (hy:y<=127) (h1:1<=i) (ha:acc<=255*2^(7*(i-1))):acc+y*2^(7*(i-1))<=255*2^(7*(i+1-1)):=by
 have e:7*(i+1-1)=7*(i-1)+7:=by omega
 rw[e,Nat.pow_add];generalize 2^(7*(i-1))=p at*
 have:=Nat.mul_le_mul hy (Nat.le_refl p);have e2:(2:Nat)^7=128:=rfl;rw[e2];omega
theorem w64_self (i:Nat) (h:i<1000000000000):wrap64 (i:Int)=(i:Int):=by unfold wrap64;omega
theorem w64_pred (i:Nat) (h:i<1000000000000):wrap64 ((i:Int)+1-1)=(i:Int):=by unfold wrap64;omega
theorem w64_add (a z:Nat) (h:a+z<=200000000000):wrap64 ((a:Int)+(z:Int))=((a+z:Nat):Int):=by unfold wrap64;omega
theorem sub_back {a b:Nat} (h:b<=a):a-(a-b)=b:=by omega
theorem xm_sub {x:Nat} (h:¬x<128) (h2:x<256):x % 128=x-128:=by omega
theorem y_127 {x:Nat} (h2:x<256):x-128<=127:=by omega
theorem ib_big {i n:Nat} (h:i<n) (hn:n<=1000000):i<1000000000000:=by omega
theorem w64_127 {y:Nat} (h:y<=127):wrap64 (y:Int)=(y:Int):=by unfold wrap64;omega
theorem drewN_post (w:World) (k m:Nat):∃n,(w.drewN k).drewN m=w.drewN n:=⟨_,World.drewN_drewN ..⟩
def IntPost (bits:Nat) (l:List UInt8) (w:World) (e:Ending) (w':World):Prop:=
 (∃n,w'=w.drewN n)/\((∃i r,Hk.intP bits l=some (i,r)/\e= .returned (.tuple #[.int .i64 (i:Nat),.int .i64 (l.length-r.length:Nat),.nilIface]))\/(Hk.intP bits l=none/\∃a,e= .returned (.tuple #[.int .i64 0,.int .i64 0,ev a])))
def IL (bits:Nat) (l:List UInt8) (A:Option Addr) (n c:Nat) (w:World) (lb:Nat) (a:Act) (W:World):Prop:=
 (lb=1/\∃acc i:Nat,IA a (.slice A n c) (.int .i64 (acc:Nat)) (.int .i64 (i:Nat))/\1<=i/\i<=6/\i<=n/\acc<=255*2^(7*(i-1))/\Hk.intMore (6-i) (7*(i-1)) acc (l.drop i)=Hk.intP bits l/\∃k,W=w.drewN k)\/
 (lb=0/\a.defers=[]/\a.tmps.size=66/\Hk.intP bits l=none/\∃k,W=w.drewN k)
def muI (lb:Nat) (a:Act):Nat:=if lb=1 then 10-(intOf (a.tmps.getD 9 undef)).toNat else 0
theorem hint_any (bt:Nat) (A:Option Addr) (n c B:Nat) (l:List UInt8) (w:World) (hG:bt=4\/bt=5\/bt=6\/bt=7) (hr:Rd w B A n l) (hc:n<=c) (hn:n<=1000000) (hE:HpE w):
 Calls Tryz.prog 256 #[.slice A n c,.int .i64 (bt:Nat)] w (IntPost bt l w):=by
 obtain⟨el,hQ⟩:=hE.long;obtain⟨ee,hR⟩:=hE.end_;have HR:=hid hr;have hl:=hr.1;have hS:=hid (λk=>(show(w.drewN k).cell? ⟨5,0,none⟩=some (ev el)from hQ));have hT:=hid (λk=>(show(w.drewN k).cell? ⟨10,0,none⟩=some (ev ee)from hR));have HN:=hid (show n<=1000000/\n<=c/\l.length=n from⟨hn,hc,hl⟩);clear hE hr hQ hR hn hc hl;go_enter Tryz.func256,Tryz.ntmps256;go_wp2_with fail;refine wp_scope_many (IL bt l A n c w) (λlb a _=>muI lb a) ?_ ?_ ?_
 · rintro lb a W (⟨rfl,_⟩|⟨rfl,_⟩)<;>exact⟨_,rfl⟩
 · intro h9
   have H0:=hid h9;clear h9;cases n with
   |zero=>
    have H1:l=[]:=List.eq_nil_of_length_eq_zero HN.out.2.2;subst H1;have q0:w.cell? ⟨10,0,none⟩=some (ev ee):=hT.out 0;rcases hG with rfl|rfl|rfl|rfl
    all_goals
     go_wp2_with fail;go_quiet (fail);go_wp2_with fail;go_ret3;exact⟨⟨_,rfl⟩,.inr ⟨rfl,_,rfl⟩⟩
   |succ n=>
    obtain⟨ad,hA,H2,hcell⟩:=HR.out.at_ (k:=0) (Nat.succ_pos n);subst hA;cases l with
    |nil=>have:=HN.out.2.2;simp at this
    |cons b l=>
     have hcell:w.cell? ad=some (.int .u8 (b.toNat:Int)):=hcell;have hU:b.toNat<256:=b.toNat_lt;obtain⟨x,hx⟩:∃x,b.toNat=x:=⟨_,rfl⟩;rw[hx]at hcell hU;have HX:=hid (And.intro hx hU);have h8:∀m:Nat,m<256->bits .and .i64 (x:Int) (m:Int)=((x&&& m:Nat):Int):=λm hm=>and_nat x m (by omega) (by omega);obtain⟨y,hy⟩:∃y,x % 2^bt=y:=⟨_,rfl⟩;have hV:y<=255:=by rw[<-hy];exact Nat.le_trans (Nat.mod_le _ _) (by omega)
     have hW:y<2^bt:=by rw[<-hy];exact Nat.mod_lt _ (Nat.pow_pos (by omega))
     have HY:=hid (And.intro hy hV);have hH:2^bt-1<256:=by rcases hG with rfl|rfl|rfl|rfl<;>decide
     have hI:x&&& (2^bt-1)=y:=by rw[Nat.and_two_pow_sub_one_eq_mod,hy]
     clear hx hy hV;by_cases hh:y<2^bt-1
     · have hi:Hk.intP bt (b::l)=some (y,l):=by rw[Hk.intP,HX.out.1,HY.out.1,if_pos hh]
       have HP:=hid hi;clear hi;rcases hG with rfl|rfl|rfl|rfl
       all_goals
        have ha:=h8 _ hH;rw[hI]at ha;have hj:=Int.ofNat_lt.2 hh;clear h8 hI hW hH hh;first
         |(have hb:bits .and .i64 (x:Int) 15=(y:Int):=ha;have hM:(y:Int)<15:=hj)
         |(have hb:bits .and .i64 (x:Int) 31=(y:Int):=ha;have hM:(y:Int)<31:=hj)
         |(have hb:bits .and .i64 (x:Int) 63=(y:Int):=ha;have hM:(y:Int)<63:=hj)
         |(have hb:bits .and .i64 (x:Int) 127=(y:Int):=ha;have hM:(y:Int)<127:=hj)
        clear ha hj;go_wp2_with fail;go_ret3;exact⟨⟨0,rfl⟩,.inl ⟨_,_,HP.out,by simp⟩⟩
     · have H3:y=2^bt-1:=by omega
       have hi:Hk.intP bt (b::l)=Hk.intMore 5 0 y l:=by rw[Hk.intP,HX.out.1,HY.out.1,if_neg hh]
       have HP:=hid hi;clear hi;subst H3;rcases hG with rfl|rfl|rfl|rfl
       all_goals
        have ha:=h8 _ hH;rw[hI]at ha;clear h8 hI hW hh hH;first
         |(have hb:bits .and .i64 (x:Int) 15=15:=ha)
         |(have hb:bits .and .i64 (x:Int) 31=31:=ha)
         |(have hb:bits .and .i64 (x:Int) 63=63:=ha)
         |(have hb:bits .and .i64 (x:Int) 127=127:=ha)
        clear ha;go_wp2_with fail;go_step3;rename_i hK;refine hK _ _ (H0.out 1 _ rfl _ _ (.inl ⟨rfl,_,1,⟨rfl,rfl,rfl,rfl,rfl⟩,Nat.le_refl _,by omega,by omega,by decide,?_,0,rfl⟩));exact HP.out.symm
 · rintro lb r hl a W (⟨rfl,acc,i,hX,h1,h6,hJ,hF,hg,k,rfl⟩|⟨rfl,hd,hz,h0,k,rfl⟩)
   · injection hl with hl
     injection hl with _ hl
     subst hl;obtain⟨u,rfl⟩:=hX.lit;clear hX;have HG:=hid hg;have hf:=hid hF;clear hg hF;by_cases hk:i=6
     · subst hk
       have h0:Hk.intP bt l=none:=by rw[<-HG.out];rfl
       have ho:=hid h0;clear h0 hJ;go_wp2_with fail;go_step3;exact⟨.inr ⟨rfl,rfl,rfl,ho.out,k,rfl⟩,by simp[muI,intOf]⟩
     obtain⟨m,hm⟩:∃m,6-i=m+1:=⟨5-i,by omega⟩;rw[hm]at HG;by_cases hN:i=n
     · have h0:Hk.intP bt l=none:=by
        have hd:l.drop i=[]:=List.drop_eq_nil_of_le (by rw[HN.out.2.2];omega);rw[<-HG.out,hd];rfl
       have ho:=hid h0;have q0:w.cell? ⟨10,0,none⟩=some (ev ee):=hT.out 0;have hne:¬i=6:=hk;have H8:((i:Int)==6)=false:=by simp;omega
       clear h0 hJ hm;subst hN;go_wp2_with fail;go_quiet (fail);go_wp2_with fail;go_ret3;exact⟨drewN_post _ _ _,.inr ⟨ho.out,_,rfl⟩⟩
     · have he:i<n:=by omega
       have h5:i<=5:=by omega
       obtain⟨ad,hA,H2,hcell⟩:=HR.out.at_ he;subst hA;have hcell:w.cell? (ad.add i)=some (.int .u8 ((l.getD i 0).toNat:Int)):=hcell;have hO:l.drop i=l.getD i 0::l.drop (i+1):=by
        have h2:i<l.length:=by rw[HN.out.2.2];exact he
        rw[List.drop_eq_getElem_cons h2]
        congr 1
        rw[List.getD,List.getElem?_eq_getElem h2];rfl
       have hq:(l.getD i 0).toNat<256:=(l.getD i 0).toNat_lt;have h4:=HG.out;rw[hO,Hk.intMore]at h4;generalize (l.getD i 0).toNat=x at*
       have ha:=and_u8m x hq;have H9:(i:Int)<(n:Int):=by omega
       have Ha:((i:Int)==6)=false:=by simp;omega
       have Hb:((i:Int)==(n:Int))=false:=by simp;omega
       have HI:=hid (And.intro he hm);have hL:=ib_big he HN.out.1;have Hc:=w64_succ i hL;have He:=w64_self i hL;have Hg:=w64_pred i hL;clear hL;by_cases hx:x<128
       · rw[if_pos hx]at h4
         have ht:x % 128=x:=Nat.mod_eq_of_lt hx;rw[ht]at ha;have hu:(l.drop (i+1)).length=l.length-(i+1):=List.length_drop;have H4:¬(128:Int)<=(x:Int):=λh=>absurd (Int.ofNat_le.1 h) (Nat.not_le.2 hx);have hP:=λW=>shl7 Tryz.prog x i (Nat.le_of_lt_succ hx) h1 h5 W;have hw:=hid (zbound (x:=x) (Nat.le_of_lt_succ hx) h1 h5 hf.out);obtain⟨z,hz⟩:∃z,x*2^(7*(i-1))=z:=⟨_,rfl⟩;rw[hz]at hP h4 hw;have hY:=hid hu;have hC:=hid (And.intro h1 (And.intro hk h6));have H5:wrap64 ((acc:Int)+(z:Int))=((acc+z:Nat):Int):=w64_add acc z hw.out;clear hz ht hq hN hu hJ h1 h6 hk he hO hm h5;by_cases h7:acc+z<=2147483647
         · rw[if_pos h7]at h4
           have hD:=hid h4;have H7:((acc:Int)+(z:Int))<=2147483647:=by have h:=Int.ofNat_le.2 h7;exact h
           clear h4 h7;go_wp2_with fail;go_ret3;refine⟨⟨k,rfl⟩,.inl ⟨_,_,hD.out.symm,?_⟩⟩;rw[hY.out,sub_back (by have:=HN.out.2.2;have:=HI.out.1;omega)]
           rfl
         · rw[if_neg h7]at h4
           have hD:=hid h4;have q0:w.cell? ⟨5,0,none⟩=some (ev el):=hS.out 0;have H7:¬((acc:Int)+(z:Int))<=2147483647:=λh=>h7 (Int.ofNat_le.1 h);clear h4 h7;go_wp2_with fail;apply wp_label;go_wp2_with fail;go_quiet (fail);go_wp2_with fail;go_ret3;exact⟨drewN_post _ _ _,.inr ⟨hD.out.symm,_,rfl⟩⟩
       · rw[if_neg hx]at h4
         have ht:x % 128=x-128:=xm_sub hx hq;rw[ht]at ha;have hu:(l.drop (i+1)).length=l.length-(i+1):=List.length_drop;have H4:(128:Int)<=(x:Int):=Int.ofNat_le.2 (Nat.not_lt.1 hx);have h3:x-128<=127:=y_127 hq;obtain⟨y,hy⟩:∃y,x-128=y:=⟨_,rfl⟩;rw[hy]at ha h4 h3;have hP:=λW=>shl7 Tryz.prog y i h3 h1 h5 W;have Hh:=w64_127 h3;have hw:=hid (zbound (x:=y) h3 h1 h5 hf.out);have hZ:=hid (accbound (y:=y) h3 h1 hf.out);obtain⟨z,hz⟩:∃z,y*2^(7*(i-1))=z:=⟨_,rfl⟩;rw[hz]at hP h4 hw hZ;have hY:=hid hu;have hD:=hid h4;have hC:=hid (And.intro h1 (And.intro h5 he));have H5:wrap64 ((acc:Int)+(z:Int))=((acc+z:Nat):Int):=w64_add acc z hw.out;clear hz ht hq hN hu hJ h1 h6 hk he hO hm h5 h4 hy h3 hx;go_wp2_with fail;try go_step3
         refine⟨.inl ⟨rfl,acc+z,i+1,⟨rfl,rfl,rfl,rfl,rfl⟩,Nat.le_add_left 1 i,Nat.succ_le_succ hC.out.2.1,hC.out.2.2,hZ.out,?_,k,rfl⟩,?_⟩
         · rw[<-hD.out]
           have e1:6-(i+1)=m:=by have:=HI.out.2;omega
           have e2:7*(i+1-1)=7*(i-1)+7:=by have:=hC.out.1;omega
           rw[e1,e2]
         · simp[muI,intOf]
           have:=hC.out.2.1;omega
   · injection hl with hl
     injection hl with _ hl
     subst hl;obtain⟨u,rfl⟩:=lit66 hd hz;have ho:=hid h0;have q0:w.cell? ⟨5,0,none⟩=some (ev el):=hS.out 0;clear h0;go_wp2_with fail;go_quiet (fail);go_wp2_with fail;go_ret3;exact⟨drewN_post _ _ _,.inr ⟨ho.out,_,rfl⟩⟩
end Go.Proofs.YtkpppjhbmnfmkaaGreatDoor
end

section
set_option maxHeartbeats 4000000
set_option maxRecDepth 100000
namespace Go.Proofs.YtkpppjhbmnfmkaaGreatDoor
open Go.RowKit Go.Own Go.Own.Fr
attribute [local go_sem] Oper.semAt_some
def toI (v:Value):Nat:=match v with| .int _ n=>n.toNat|_=>0
theorem u8n (n:Nat) (h:n<256):(n:Int)=((UInt8.ofNat n).toNat:Int):=by rw[UInt8.toNat_ofNat'];omega
structure PJ (w wr:World) (all_:List UInt8) (m k:Nat) (done:List UInt8) (v:Value):Prop where
 own:Ow wr w.heap.size 5 v done.length done
 b:Below w.heap.size w wr
 eq:all_=done++Hk.putMore k m
 lt:m<128^(k+1)
 few:done.length+k<=8
 k4:k<=4
theorem rq2 (m:Nat) (h:m<34359738368):wrap64 ((m/128:Nat):Int)=((m/128:Nat):Int):=by unfold wrap64;omega
theorem rq3 (m:Nat) (h:m<34359738368):IntKind.i64.wrap ((m/128:Nat):Int)=((m/128:Nat):Int):=by rw[IntKind.wrap_i64];omega
theorem rm5 (m:Nat) (h:m<128):IntKind.u8.wrap (m:Int)=(m:Int):=by rw[IntKind.wrap_u8];omega
theorem more_big {k j m:Nat} (hk:k=j+1) (h:128<=m):Hk.putMore k m=UInt8.ofNat (m % 128+128)::Hk.putMore j (m/128):=by
 subst hk;rw[Hk.putMore,if_neg (by omega)]
theorem more_end {k m:Nat} (h:m<128):Hk.putMore k m=[UInt8.ofNat m]:=by
 cases k with
 |zero=>rfl
 |succ j=>rw[Hk.putMore,if_pos h]
theorem m_less {m:Nat} (h:128<=m):m/128<m:=by omega
def PutPost (l:List UInt8) (w:World) (e:Ending) (w':World):Prop:=∃A c,e= .returned (.slice A l.length c)/\Ow w' w.heap.size 5 (.slice A l.length c) l.length l/\Below w.heap.size w w'
theorem pow128 (k:Nat) (hk:k<=4) (m:Nat) (h:m<128^(k+1)) (h2:128<=m):∃j,k=j+1/\m/128<128^(j+1):=by
 cases k with
 |zero=>simp at h;omega
 |succ j=>exact⟨j,rfl,by rw[Nat.pow_succ]at h;exact Nat.div_lt_of_lt_mul (by rw[Nat.mul_comm];exact h)⟩
end Go.Proofs.YtkpppjhbmnfmkaaGreatDoor
end

section
set_option maxHeartbeats 4000000
set_option maxRecDepth 100000
namespace Go.Proofs.YtkpppjhbmnfmkaaGreatDoor
open Go.RowKit Go.Own Go.Own.Fr
attribute [local go_sem] Oper.semAt_some
def PutB (l0 l:List UInt8) (w:World) (e:Ending) (w':World):Prop:=∃A c,e= .returned (.slice A (l0++l).length c)/\Ow w' w.heap.size 5 (.slice A (l0++l).length c) (l0++l).length (l0++l)/\Below w.heap.size w w'
structure PK (w wr:World) (all_:List UInt8) (N m k:Nat) (done:List UInt8) (v:Value):Prop where
 own:Ow wr w.heap.size 5 v done.length done
 b:Below w.heap.size w wr
 eq:all_=done++Hk.putMore k m
 lt:m<128^(k+1)
 few:done.length+k<=N+8
 k4:k<=4
def PKI (w:World) (all_:List UInt8) (N:Nat) (t3 t9:Value) (wr:World):Prop:=∃m k done,t3= .int .i64 (m:Nat)/\PK w wr all_ N m k done t9
theorem or_add (f b t n:Nat) (ht:t+1=2^b) (hm0:f % (t+1)=0) (hn:n<=t):f|||n=f+n:=by
 have h1:f=f/ (t+1)*2^b:=by rw[<-ht];have:=Nat.div_add_mod f (t+1);rw[Nat.mul_comm];omega
 rw[h1];exact Hf.or_lt _ _ _ (by omega)
theorem pi_pow (b t:Nat) (ht:t+1=2^b) (h7:t<=127) (hb:b<=7):wrap64 ((2:Int)^min b 64)=((t+1:Nat):Int):=by
 rw[show min b 64=b by omega,show((2:Int)^b)=((2^b:Nat):Int)by simp,<-ht];unfold wrap64;omega
theorem pi_sub (t:Nat) (h7:t<=127):wrap64 (((t+1:Nat):Int)-1)=(t:Int)/\IntKind.i64.wrap (((t+1:Nat):Int)-1)=(t:Int):=
 ⟨by unfold wrap64;omega,by rw[IntKind.wrap_i64];omega⟩
theorem pi_six (N:Nat) (h:N<=1000000000):wrap64 ((N:Int)+6)=((N+6:Nat):Int)/\IntKind.i64.wrap ((N:Int)+6)=((N+6:Nat):Int):=
 ⟨by unfold wrap64;omega,by rw[IntKind.wrap_i64];omega⟩
theorem pi_less (n t:Nat) (h:t<=n) (hn:n<=2147483647):wrap64 ((n:Int)-(t:Int))=((n-t:Nat):Int)/\IntKind.i64.wrap ((n:Int)-(t:Int))=((n-t:Nat):Int):=
 ⟨by unfold wrap64;omega,by rw[IntKind.wrap_i64];omega⟩
theorem pi_u8 (k:Nat) (h:k<256):IntKind.u8.wrap (k:Int)=(k:Int):=by rw[IntKind.wrap_u8];omega
theorem pi_and (f b t:Nat) (ht:t+1=2^b) (hm0:f % (t+1)=0) (hf:f+t<256) (h7:t<=127):bits .and .i64 (f:Int) (t:Int)=0:=by
 have h1:f&&& t=0:=by
  have h:=Nat.and_two_pow_sub_one_eq_mod f b;rw[<-ht,hm0,Nat.add_sub_cancel]at h;exact h
 rw[and_nat f t (by omega) (by omega),h1];rfl
theorem pi_hi_list:(List.range 256).all (λk=>decide (bits .or .u8 (k:Int) 128=((k % 128+128:Nat):Int)))=true:=by kernel_rfl
theorem pi_hi (m:Nat):bits .or .u8 ((m:Int) % 256) 128=((m % 128+128:Nat):Int):=by
 have h:=of_decide_eq_true (List.all_eq_true.1 pi_hi_list (m % 256) (List.mem_range.2 (Nat.mod_lt _ (by decide))));rw[show(m:Int) % 256=((m % 256:Nat):Int)by simp,h,show m % 256 % 128=m % 128 by omega]
theorem pi_sh (m:Nat):(m:Int)/128=((m/128:Nat):Int):=by simp
theorem putintG (f b t n:Nat) (hb:1<=b/\b<=7) (ht:t+1=2^b) (hf:f+t<256) (hL:f % (t+1)=0) (hn:n<=2147483647) (A:Option Addr) (N c B:Nat) (l:List UInt8) (w:World) (hr:Rd w B A N l) (hB:B<=w.heap.size) (hN:N<=1000000000):
 Calls Tryz.prog 138 #[.slice A N c,.int .i64 f,.int .i64 b,.int .i64 n] w (PutB l (Hk.putI f b n) w):=by
 have HR:=Lib.hid hr;have HH:=Lib.hid (And.intro hn hN);have hS:=Lib.hid (show l.length=N from hr.1);have hD:t<=127:=by have:=Nat.pow_le_pow_right (show 0<2 by decide) hb.2;omega
 have hM:2^b-1=t:=by omega
 have h6:N+6<=1000000006:=by omega
 have hO:∀k:Nat,k<=t->bits .or .i64 (f:Int) (k:Int)=((f+k:Nat):Int):=λk hk=>by
  rw[or_nat f k (by omega) (by omega),or_add f b t k ht hL hk]
 have hW:bits .and .i64 (f:Int) (t:Int)=0:=pi_and f b t ht hL hf hD;have h4:decide ((b:Int)<1)=false:=by simp;omega
 have H3:decide ((8:Int)<(b:Int))=false:=by simp;omega
 have H4:decide ((f:Int)<0)=false:=by simp
 have H5:decide ((255:Int)<(f:Int))=false:=by simp;omega
 have H7:decide ((n:Int)<0)=false:=by simp
 have H8:decide ((2147483647:Int)<(n:Int))=false:=by simp;omega
 have hp:=pi_pow b t ht hD hb.2;have hA:=pi_sub t hD;have hC:=pi_six N hN;have hY:=hA.1;have hZ:=hA.2;have hP:=hC.1;have hQ:=hC.2;clear hA hC;obtain⟨q,hq⟩:∃q,t+1=q:=⟨_,rfl⟩;rw[hq]at hp hY hZ;by_cases h0:n<t
 · have HV:=Lib.hid (show Hk.putI f b n=[UInt8.ofNat (f+n)]by unfold Hk.putI;rw[hM,if_pos h0])
   have hi:(n:Int)<(t:Int):=Int.ofNat_lt.2 h0;have hT:f+n<256:=Nat.lt_trans (Nat.add_lt_add_left h0 f) hf;have hx:=u8n (f+n) hT;have hK:=hO n (Nat.le_of_lt h0);have H0:=pi_u8 (f+n) hT;clear hT;have HX:=Lib.hid hx;generalize hy:((f+n:Nat):Int)=y at*
   clear hx hy hO hq hn hN hr hL hf ht hM hD hb h0;go_enter Tryz.func138,Tryz.ntmps138;go_upto_region 2 with(first
    |(at_make
      refine wpList_mk _ byteP rfl _ _ rfl w.heap.size .i64 .i64 _ (N+6) rfl rfl ?_ ?_ (Nat.le_refl _) ?_
      · first|exact hP|exact hQ|rfl
      · omega
      intro w1 hE hF;have h4:Below w.heap.size w w1:=(Below.refl _ _).grown hF (Nat.le_refl _) (by simp);have hG:=Lib.hid ((HR.out.more hB).below h4))
    |(at_builtin
      refine wpList_app_fits _ byteP rfl (.tmp 14) (.tmp 15) rfl w.heap.size w.heap.size 0 (N+6) [] rfl hE w.heap.size A N c l rfl hG.out ?_ ?_
      · omega
      intro w2 he hH;simp only[Nat.zero_add,List.nil_append]at he;have hI:Below w.heap.size w w2:=h4.grown hH h4.size (by simp);have hU:=Lib.hid he;have hJ:=Lib.hid hI;clear hE hF h4 hG he hH hI)
    |fail)
   have hh:=Lib.hid (Rd.one w2 y (UInt8.ofNat (f+n)) 5 HX.out);have h8:=Lib.hid (hU.out.alloc (.cells #[.int .u8 y] 5));have h3:=Lib.hid (hJ.out.alloc hJ.out.size (.cells #[.int .u8 y] 5));have hd:N+1<=140737488355328:=by omega
   clear h6 hP hQ;go_upto_region 6 with fail;go_wp2_with (first
    |(at_builtin
      refine wpList_app_any _ byteP rfl (.tmp 54) (.tmp 59) rfl w.heap.size _ N l rfl h8.out (w2.heap.size+1) (some ⟨w2.heap.size,0,none⟩) 1 1 [UInt8.ofNat (f+n)] rfl hh.out hd h3.out.size ?_;intro A3 c3 w3 h5 h7 _ _ _;have hl:=Lib.hid h5;have ho:=Lib.hid (h3.out.grown h7 h3.out.size (λg hg=>(h8.out.lt hg).2));clear h5 h7)
    |fail)
   go_ret;rw[HV.out];have h9:(l++[UInt8.ofNat (f+n)]).length=N+1:=by rw[List.length_append,hS.out];rfl
   exact⟨A3,c3,by rw[h9];rfl,by rw[h9];exact hl.out,ho.out⟩
 · have HV:=Lib.hid (show Hk.putI f b n=[UInt8.ofNat (f+t)]++Hk.putMore 4 (n-t)by unfold Hk.putI;rw[hM,if_neg h0];rfl)
   have hi:¬(n:Int)<(t:Int):=λh=>h0 (Int.ofNat_lt.1 h);have hid:decide ((n:Int)<(t:Int))=false:=decide_eq_false hi;have hx:=u8n (f+t) hf;have hK:=hO t (Nat.le_refl _);have H0:=pi_u8 (f+t) hf;have w12:=pi_less n t (Nat.le_of_not_lt h0) hn;have w1:=w12.1;have w2':=w12.2;have HX:=Lib.hid hx;have H9:=Lib.hid (show n-t<34359738368 from Nat.lt_of_le_of_lt (Nat.sub_le _ _) (Nat.lt_of_le_of_lt hn (by decide)));generalize hX:Hk.putI f b n=all_ at*
   generalize hm:n-t=m0 at*
   generalize hy:((f+t:Nat):Int)=y at*
   clear hx hy hO hq hn hN hr hL hf ht hM hD hb h0 w12 hm hX;go_enter Tryz.func138,Tryz.ntmps138;go_upto_region 2 with(first
    |(at_make
      refine wpList_mk _ byteP rfl _ _ rfl w.heap.size .i64 .i64 _ (N+6) rfl rfl ?_ ?_ (Nat.le_refl _) ?_
      · first|exact hP|exact hQ|rfl
      · omega
      intro w1 hE hF;have h4:Below w.heap.size w w1:=(Below.refl _ _).grown hF (Nat.le_refl _) (by simp);have hG:=Lib.hid ((HR.out.more hB).below h4))
    |(at_builtin
      refine wpList_app_fits _ byteP rfl (.tmp 14) (.tmp 15) rfl w.heap.size w.heap.size 0 (N+6) [] rfl hE w.heap.size A N c l rfl hG.out ?_ ?_
      · omega
      intro w2 he hH;simp only[Nat.zero_add,List.nil_append]at he;have hI:Below w.heap.size w w2:=h4.grown hH h4.size (by simp);have hU:=Lib.hid he;have hJ:=Lib.hid hI;clear hE hF h4 hG he hH hI)
    |fail)
   have hh:=Lib.hid (Rd.one w2 y (UInt8.ofNat (f+t)) 5 HX.out);have h8:=Lib.hid (hU.out.alloc (.cells #[.int .u8 y] 5));have h3:=Lib.hid (hJ.out.alloc hJ.out.size (.cells #[.int .u8 y] 5));have hd:N+1<=140737488355328:=by omega
   clear h6 hP hQ;go_upto_region 7 with fail;go_upto_region 8 with(first
    |(at_builtin
      refine wpList_app_any _ byteP rfl (.tmp 61) (.tmp 66) rfl w.heap.size _ N l rfl h8.out (w2.heap.size+1) (some ⟨w2.heap.size,0,none⟩) 1 1 [UInt8.ofNat (f+t)] rfl hh.out hd h3.out.size ?_;intro A3 c3 w3 h5 h7 _ _ _;have hl:=Lib.hid h5;have ho:=Lib.hid (h3.out.grown h7 h3.out.size (λg hg=>(h8.out.lt hg).2));clear h5 h7)
    |fail)
   have HJ:=Lib.hid (show PKI w (l++all_) N (.int .i64 (m0:Nat)) (.slice A3 (N+1) c3) w3 from
    ⟨m0,4,l++[UInt8.ofNat (f+t)],rfl,by rw[List.length_append,hS.out];exact hl.out,ho.out,by rw[HV.out,List.append_assoc],H9.out,by rw[List.length_append,hS.out];show N+1+4<=_;omega,by decide⟩)
   go_upto_region 9 with fail;clear w1 w2' hp h4 H3 H4 H5 H0 H7 H8 hi hid hK hW hY hZ hd;have H1:=Lib.hid HH.out.2;clear HH;go_loopw [3,9] (λt3 t9 wr=>PKI w (l++all_) N t3 t9 wr) (λt3 _ _=>toI t3)
   case atStart=>exact HJ.out
   case round=>
    obtain⟨m,k,done,rfl,hj⟩:=hrel;have HP:=Lib.hid hj;obtain⟨A1,c1,rfl,_,_,_⟩:=hj.own.form;have hw:=hj.b.size;have H2:=Lib.hid (show m<34359738368 from Nat.lt_of_lt_of_le hj.lt (Nat.le_trans (Nat.pow_le_pow_right (by omega) (show k+1<=5 by have:=hj.k4;omega)) (by decide)));clear hj;by_cases hc:128<=m
    · have hb:(128:Int)<=(m:Int):=by omega
      have hR:=Lib.hid (show((m % 128+128:Nat):Int)=((UInt8.ofNat (m % 128+128)).toNat:Int)from u8n _ (by omega));have hV:=Lib.hid (show done.length+1<=140737488355328 from by have:=HP.out.few;have:=H1.out;omega);obtain⟨j,hk,h0⟩:=pow128 k HP.out.k4 m HP.out.lt hc;have e1:=pi_hi m;have e5:=pi_sh m;have e6:=rq2 m H2.out;have e7:=rq3 m H2.out;have HK:=Lib.hid (And.intro hk (And.intro h0 (And.intro (more_big hk hc) (m_less hc))));clear hk h0;generalize hx:((m % 128+128:Nat):Int)=x at e1 hR;generalize hq:((m/128:Nat):Int)=q at e5 e6 e7;have HQ:=Lib.hid hq;clear hx hq hc;have HO:=Lib.hid (HP.out.own.alloc (.cells #[.int .u8 x] 5));have hh:=Lib.hid (Rd.one wr x (UInt8.ofNat (m % 128+128)) 5 hR.out);have hu:=Lib.hid (HP.out.b.alloc HP.out.b.size (.cells #[.int .u8 x] 5));go_wp2_with (first
       |(at_builtin
         refine wpList_app_any _ byteP rfl (.tmp 75) (.tmp 79) rfl w.heap.size _ done.length done rfl HO.out (wr.heap.size+1) (some ⟨wr.heap.size,0,none⟩) 1 1 [UInt8.ofNat (m % 128+128)] rfl hh.out hV.out hu.out.size ?_;intro A3 c3 w3 h5 h7 _ _ _;have hl:=Lib.hid h5;have ho:=Lib.hid (hu.out.grown h7 hu.out.size (λg hg=>(HO.out.lt hg).2));clear h5 h7)
       |fail)
      refine⟨⟨m/128,j,done++[UInt8.ofNat (m % 128+128)],by rw[HQ.out],⟨by rw[List.length_append];exact hl.out,ho.out,?_,HK.out.2.1,?_,?_⟩⟩,?_⟩
      · rw[HP.out.eq,HK.out.2.2.1,List.append_assoc];rfl
      · have h1:=HP.out.few;have h2:=HK.out.1;rw[List.length_append,List.length_singleton];clear e1 e5 e6 e7;omega
      · have h1:=HP.out.k4;have h2:=HK.out.1;clear e1 e5 e6 e7;omega
      · rw[<-HQ.out];exact HK.out.2.2.2
    · have hb:¬(128:Int)<=(m:Int):=by omega
      have h0:m<128:=by omega
      have hR:=Lib.hid (u8n m (by omega));have hV:=Lib.hid (show done.length+1<=140737488355328 from by have:=HP.out.few;have:=H1.out;omega);have Ha:=Lib.hid (more_end (k:=k) h0);have e4:=rm5 m h0;have HO:=Lib.hid (HP.out.own.alloc (.cells #[.int .u8 (m:Int)] 5));have hh:=Lib.hid (Rd.one wr (m:Int) (UInt8.ofNat m) 5 hR.out);have hu:=Lib.hid (HP.out.b.alloc HP.out.b.size (.cells #[.int .u8 (m:Int)] 5));clear hc h0;go_wp2_with (first
       |(at_builtin
         refine wpList_app_any _ byteP rfl (.tmp 81) (.tmp 84) rfl w.heap.size _ done.length done rfl HO.out (wr.heap.size+1) (some ⟨wr.heap.size,0,none⟩) 1 1 [UInt8.ofNat m] rfl hh.out hV.out hu.out.size ?_;intro A3 c3 w3 h5 h7 _ _ _;have hl:=Lib.hid h5;have ho:=Lib.hid (hu.out.grown h7 hu.out.size (λg hg=>(HO.out.lt hg).2));clear h5 h7)
       |fail)
      go_ret;unfold PutB;rw[HP.out.eq,Ha.out];have h9:(done++[UInt8.ofNat m]).length=done.length+1:=by rw[List.length_append];rfl
      exact⟨A3,c3,by rw[h9];rfl,by rw[h9];exact hl.out,ho.out⟩
theorem putG_128_7 (n:Nat) (hn:n<=2147483647) (A:Option Addr) (N c B:Nat) (l:List UInt8) (w:World) (hr:Rd w B A N l) (hB:B<=w.heap.size) (hN:N<=1000000000):
 Calls Tryz.prog 138 #[.slice A N c,.int .i64 128,.int .i64 7,.int .i64 (n:Nat)] w (PutB l (Hk.putI 128 7 n) w):=
 putintG 128 7 127 n (by decide) (by decide) (by decide) (by decide) hn A N c B l w hr hB hN
theorem putG_0_7 (n:Nat) (hn:n<=2147483647) (A:Option Addr) (N c B:Nat) (l:List UInt8) (w:World) (hr:Rd w B A N l) (hB:B<=w.heap.size) (hN:N<=1000000000):
 Calls Tryz.prog 138 #[.slice A N c,.int .i64 0,.int .i64 7,.int .i64 (n:Nat)] w (PutB l (Hk.putI 0 7 n) w):=
 putintG 0 7 127 n (by decide) (by decide) (by decide) (by decide) hn A N c B l w hr hB hN
theorem putG_64_6 (n:Nat) (hn:n<=2147483647) (A:Option Addr) (N c B:Nat) (l:List UInt8) (w:World) (hr:Rd w B A N l) (hB:B<=w.heap.size) (hN:N<=1000000000):
 Calls Tryz.prog 138 #[.slice A N c,.int .i64 64,.int .i64 6,.int .i64 (n:Nat)] w (PutB l (Hk.putI 64 6 n) w):=
 putintG 64 6 63 n (by decide) (by decide) (by decide) (by decide) hn A N c B l w hr hB hN
theorem putG_16_4 (n:Nat) (hn:n<=2147483647) (A:Option Addr) (N c B:Nat) (l:List UInt8) (w:World) (hr:Rd w B A N l) (hB:B<=w.heap.size) (hN:N<=1000000000):
 Calls Tryz.prog 138 #[.slice A N c,.int .i64 16,.int .i64 4,.int .i64 (n:Nat)] w (PutB l (Hk.putI 16 4 n) w):=
 putintG 16 4 15 n (by decide) (by decide) (by decide) (by decide) hn A N c B l w hr hB hN
theorem putG_0_4 (n:Nat) (hn:n<=2147483647) (A:Option Addr) (N c B:Nat) (l:List UInt8) (w:World) (hr:Rd w B A N l) (hB:B<=w.heap.size) (hN:N<=1000000000):
 Calls Tryz.prog 138 #[.slice A N c,.int .i64 0,.int .i64 4,.int .i64 (n:Nat)] w (PutB l (Hk.putI 0 4 n) w):=
 putintG 0 4 15 n (by decide) (by decide) (by decide) (by decide) hn A N c B l w hr hB hN
end Go.Proofs.YtkpppjhbmnfmkaaGreatDoor
end

section
namespace Go.Proofs.YtkpppjhbmnfmkaaGreatDoor
open Go.RowKit Go.Own Go.Own.Fr
attribute [local go_sem] Oper.semAt_some
end Go.Proofs.YtkpppjhbmnfmkaaGreatDoor
end

section
namespace Go.Proofs.YtkpppjhbmnfmkaaGreatDoor
open Go.RowKit Go.Own Go.Own.Fr
attribute [local go_sem] Oper.semAt_some
theorem idx_i64 (s:ByteArray) (k:Nat) (hk:k<s.size) (W:World):(Instr.index 9 (.string s) (.int .i64 (k:Int))).run Tryz.prog W= .ok (.int .u8 ((s.data.toList.getD k 0).toNat:Int)) W:=by
 have ht:=Tryz.underlying9;have e:s.data.toList.getD k 0=s[k]:=by
  rw[List.getD,List.getElem?_eq_getElem (by simpa using hk)]
  rfl
 simp[Instr.index,run_underlying ht,asIntOf,hk,e]
 rfl
theorem sz_all:(List.range 257).all (λi=>Nat.ble 5 (Hf.sz i)&&Nat.ble (Hf.sz i) 30)=true:=by kernel_rfl
theorem sz_bnd {i:Nat} (h:i<257):5<=Hf.sz i/\Hf.sz i<=30:=by
 have h1:=List.all_eq_true.1 sz_all i (List.mem_range.2 h);rw[Bool.and_eq_true]at h1;exact⟨Nat.le_of_ble_eq_true h1.1,Nat.le_of_ble_eq_true h1.2⟩
def sumZ (l:List UInt8):Nat:=(l.map λb=>Hf.sz b.toNat).sum
theorem sumZ_take (l:List UInt8) (k:Nat) (hk:k<l.length):sumZ (l.take (k+1))=sumZ (l.take k)+Hf.sz (l.getD k 0).toNat:=by
 unfold sumZ;rw[List.take_succ_eq_append_getElem hk,List.map_append,List.sum_append];simp[List.getD,hk]
theorem sumZ_le (l:List UInt8):sumZ l<=30*l.length:=by
 induction l with
 |nil=>exact Nat.zero_le _
 |cons b l ih=>
  have:=(sz_bnd (i:=b.toNat) (by have:=b.toNat_lt;omega)).2;simp only[sumZ,List.map_cons,List.sum_cons,List.length_cons]at ih ⊢;omega
theorem zs4 (i:Nat) (h:i<=1000000000000):wrap64 ((i:Int)+1)=((i+1:Nat):Int):=by unfold wrap64;omega
theorem zs5 (a:Nat) (h:a<=1000000000000):wrap64 ((a:Int)+7)=((a+7:Nat):Int):=by unfold wrap64;omega
theorem zs6 (a:Nat):Int.tdiv ((a:Nat):Int) 8=((a/8:Nat):Int):=by simp
theorem zs7 (a:Nat) (h:a<=2000000000000):wrap64 ((a/8:Nat):Int)=((a/8:Nat):Int):=by unfold wrap64;omega
theorem zsT (a:Nat) (h:a<=1000000000000):wrap64 (Int.tdiv ((a:Int)+7) 8)=(((a+7)/8:Nat):Int):=by
 have h1:(a:Int)+7=((a+7:Nat):Int):=by omega
 rw[h1,zs6,zs7 _ (by omega)]
def ZI (l:List UInt8) (t3 t5:Value):Prop:=∃i,i<=l.length/\t5= .int .i64 (i:Nat)/\t3= .int .i64 (sumZ (l.take i):Nat)
end Go.Proofs.YtkpppjhbmnfmkaaGreatDoor
end

section
set_option maxHeartbeats 4000000
set_option maxRecDepth 100000
namespace Go.Proofs.YtkpppjhbmnfmkaaGreatDoor
open Lib (hid)
open Go.RowKit Go.Own Go.Own.Fr
attribute [local go_sem] Oper.semAt_some
theorem zsB (a z:Nat) (h:a<=1000000000000) (h2:z<=30):wrap64 ((a:Int)+(z:Int))=((a+z:Nat):Int):=by unfold wrap64;omega
theorem zsC (z:Nat) (h:z<257):wrap64 (z:Int)=(z:Int):=by unfold wrap64;omega
theorem fsize_any (s:ByteArray) (hs:s.size<=1000000000) (w:World):Calls Tryz.prog 173 #[.string s] w λe w'=>e= .returned (.int .i64 (((sumZ s.data.toList+7)/8:Nat):Int))/\w'=w:=by
 have HS:=hid hs;have h0:s.data.toList.length=s.size:=by simp
 have h8:=hid h0;clear h0 hs;go_enter Tryz.func173,Tryz.ntmps173;go_upto_region 3 with fail;go_loop [3,9] (λt3 t9=>ZI s.data.toList t3 t9) (λ_ t9=>s.size-toI t9)
 case atStart=>exact⟨0,Nat.zero_le _,rfl,rfl⟩
 case round=>
  obtain⟨i,hi,rfl,rfl⟩:=hrel;have h4:=h8.out;have hsz:=HS.out;have h5:=sumZ_le (s.data.toList.take i);have h6:sumZ (s.data.toList.take i)<=30000000000:=by rw[List.length_take]at h5;omega
  by_cases h7:i<s.size
  · have hf:(i:Int)<(s.size:Int):=by omega
    have h1:=idx_i64 s i h7;obtain⟨c,hc⟩:∃c,s.data.toList.getD i 0=c:=⟨_,rfl⟩;have h3:=c.toNat_lt;have hb:=sz_bnd (i:=c.toNat) (by omega);have ht:=sumZ_take s.data.toList i (by omega);rw[hc]at h1 ht;have h9:=hid (show i+1<=s.data.toList.length/\s.size-(i+1)<s.size-i from⟨by omega,by omega⟩);have q1:sumZ (s.data.toList.take i)<=1000000000000:=by omega
    have q2:i<=1000000000000:=by omega
    have q3:c.toNat<257:=by omega
    have HB:=hid (λW=>hbits_any c.toNat q3 W);have e2:=zsB (sumZ (s.data.toList.take i)) _ q1 hb.2;have e4:=zs4 i q2;have e5:=zsC _ q3;rw[<-ht]at e2;clear q1 q2 q3;generalize hh:c.toNat=cn at*
    generalize hd:sumZ (s.data.toList.take (i+1))=s2 at*
    have he:=hid hd;clear ht h5 h6 h4 hsz h3 hi h7 hc hh hb hd;go_wp2_with (first
     |(go_at_call 213
       with_reducible refine Calls.mono (HB.out _) ?_
       rintro e w1 ⟨rfl,hw⟩;subst w1)
     |fail)
    exact⟨⟨i+1,h9.out.1,by rw[e4],by first|rw[he.out,e2]|rw[he.out]⟩,by rw[e4];exact h9.out.2⟩
  · have hf:¬(i:Int)<(s.size:Int):=by omega
    obtain rfl:i=s.size:=by omega
    have h2:s.data.toList.take s.size=s.data.toList:=by rw[<-h4];exact List.take_length
    rw[h2]at h6 ⊢;have q1:sumZ s.data.toList<=1000000000000:=by omega
    have e1:=zs5 (sumZ s.data.toList) q1;have HT:=hid (zsT (sumZ s.data.toList) q1);clear q1;clear h2 h5 h6 h4 hsz hi h7;go_wp2_with fail;go_ret;refine⟨?_,rfl⟩;show Ending.returned (Value.int .i64 (wrap64 _))=_;rw[HT.out];first|rfl|simp
end Go.Proofs.YtkpppjhbmnfmkaaGreatDoor
end

section
namespace Go.Proofs.YtkpppjhbmnfmkaaGreatDoor
open Go.RowKit Go.Own Go.Own.Fr
theorem blz_len:∀(n c:Nat),(Hf.bl n c).length=n
 |0,_=>rfl
 |n+1,c=>by simp[Hf.bl,blz_len n]
theorem encB_len:∀l:List Nat,(Hf.encB l).length=(l.map Hf.sz).sum
 |[]=>rfl
 |s::l=>by simp[Hf.encB,Hf.codeB,blz_len,encB_len l]
theorem bitsH_len (s:List UInt8):(Hk.bitsH s).length=sumZ s:=by
 unfold Hk.bitsH Hk.nats sumZ;rw[encB_len,List.map_map]
 rfl
theorem sizeH_is (s:List UInt8):Hk.sizeH s=(sumZ s+7)/8:=by unfold Hk.sizeH;rw[bitsH_len]
end Go.Proofs.YtkpppjhbmnfmkaaGreatDoor
end

section
namespace Go.Proofs.YtkpppjhbmnfmkaaGreatDoor
open Go.RowKit Go.Own Go.Own.Hf
attribute [local go_sem] Oper.semAt_some
end Go.Proofs.YtkpppjhbmnfmkaaGreatDoor
end

section
namespace Go.Proofs.YtkpppjhbmnfmkaaGreatDoor
open Go.RowKit Go.Own Go.Own.Hf
attribute [local go_sem] Oper.semAt_some
theorem Ct_below {W W':World} {pb B:Nat} {t:TypeId} {f:Nat->Nat} (h:Ct W pb t f) (hb:Below B W W') (hl:pb<B):Ct W' pb t f:=by
 obtain⟨cs,h1,h2,h3⟩:=h;exact⟨cs,h1.below hb hl,h2,h3⟩
theorem modw (q:Nat) (h:q<256):(q:Int) % 256=(q:Int):=by omega
structure EJ (w:World) (cg:Nat) (L:List Bool) (out:List UInt8) (x n:Nat) (t5 t6 t7:Value) (wr:World):Prop where
 inv:EncI L out x n
 t6:t6= .int .u64 (x:Nat)
 t7:t7= .int .i64 (n:Nat)
 own:Ow wr w.heap.size 5 t5 out.length out
 bel:Below w.heap.size w wr
theorem uw2 (z:Nat) (h:z<18446744073709551616):IntKind.u64.wrap (z:Int)=(z:Int):=by simp[IntKind.wrap,IntKind.bits,IntKind.signed];omega
theorem uw3 (z:Nat) (h0:0<z) (h:z<18446744073709551616):IntKind.u64.wrap ((z:Int)-1)=((z-1:Nat):Int):=by simp[IntKind.wrap,IntKind.bits,IntKind.signed];omega
theorem wsub8 (n:Nat) (h:8<=n) (h2:n<=1000):wrap64 ((n:Int)-8)=((n-8:Nat):Int):=by unfold wrap64;omega
theorem wadd (n z:Nat) (h:n<=1000) (h2:z<=1000):wrap64 ((n:Int)+(z:Int))=((n+z:Nat):Int):=by unfold wrap64;omega
theorem wrev8 (n:Nat) (h:n<=8):wrap64 (8-(n:Int))=((8-n:Nat):Int):=by unfold wrap64;omega
theorem u8w (n:Nat) (h:n<256):IntKind.u8.wrap (n:Int)=(n:Int):=by rw[IntKind.wrap_u8];omega
theorem enc_take (l:List UInt8) (i:Nat) (h:i<l.length):encB (Hk.nats (l.take (i+1)))=encB (Hk.nats (l.take i))++codeB (l.getD i 0).toNat:=by
 rw[List.take_succ_eq_append_getElem h];unfold Hk.nats;rw[List.map_append,encB_app]
 congr 1
 simp[List.getD,h,encB]
theorem encB_sum (l:List UInt8):(encB (Hk.nats l)).length=sumZ l:=bitsH_len l
theorem pow_bnd {x n z:Nat} (hx:x<2^n) (hn:n<=7) (hz:z<=30) (c:Nat) (hc:c<2^z):x*2^z+c<18446744073709551616/\x*2^z<18446744073709551616:=by
 have h1:2^n<=2^7:=Nat.pow_le_pow_right (by omega) hn;have h2:2^z<=2^30:=Nat.pow_le_pow_right (by omega) hz;have e1:(2:Nat)^7=128:=rfl;have e2:(2:Nat)^30=1073741824:=rfl;have h3:x*2^z<=128*1073741824:=Nat.mul_le_mul (by omega) (by omega);omega
theorem pow_63 {n:Nat} (hn:n<=63):2^n<18446744073709551616/\0<2^n:=by
 have h1:2^n<=2^63:=Nat.pow_le_pow_right (by omega) hn;have e1:(2:Nat)^63=9223372036854775808:=rfl;exact⟨by omega,Nat.pow_pos (by omega)⟩
end Go.Proofs.YtkpppjhbmnfmkaaGreatDoor
end

section
set_option maxHeartbeats 8000000
set_option maxRecDepth 100000
namespace Go.Proofs.YtkpppjhbmnfmkaaGreatDoor
open Lib (hid)
open Go.RowKit Go.Own Go.Own.Hf
attribute [local go_sem] Oper.semAt_some
theorem store_cod (cs:Array Value) (h1:cs.size=257) (h2:∀i,i<257->cs[i]?=some (.int .u32 (cd i:Nat))):∃Z:Array Value,(∀W,(zeroValue 250).run Tryz.prog W= .ok (.agg Z) W)/\∀w:World,(storeCells ⟨w.heap.size,0,none⟩ cs.toList 0).run Tryz.prog (w.alloc (.cells Z 250))= .ok () (w.alloc (.cells cs 250)):=by
 obtain⟨Z,h0,_,hz,_⟩:=zero_cod;refine⟨Z,hz,λw=>run_storeCells_new w _ _ _ (by rw[h1];kernel_rfl) (by rw[h1,h0]) ?_⟩;rw[Array.all_eq_true];intro i hi;have h:=h2 i (by omega);rw[Array.getElem?_eq_getElem hi]at h;injection h with h
 rw[h]
 rfl
structure EJ2 (w:World) (cg:Nat) (L:List Bool) (out:List UInt8) (x n:Nat) (t4 t6:Value) (wr:World):Prop where
 inv:EncI L out (x % 2^n) n
 t6:t6= .int .i64 (n:Nat)
 own:Ow wr w.heap.size 5 t4 out.length out
 bel:Below w.heap.size w wr
theorem mod_div (x m:Nat) (h:8<=m):(x/2^(m-8)) % 256=x % 2^m/2^(m-8):=by
 have e:2^m=2^(m-8)*256:=by rw[show(256:Nat)=2^8 from rfl,<-Nat.pow_add];congr 1;omega
 rw[e,Nat.mod_mul_right_div_self]
theorem mod_mod8 (x m:Nat) (h:8<=m):x % 2^m % 2^(m-8)=x % 2^(m-8):=Nat.mod_mod_of_dvd x (Nat.pow_dvd_pow 2 (by omega))
theorem one_m (m:Nat) (hm:m<=63):IntKind.u64.wrap ((2:Int)^m)=((2^m:Nat):Int):=by
 have h:=one_w m hm
 rwa [show min m 64=m by omega]at h
theorem pow_bits8 (n:Nat) (h0:0<n) (h8:n<=8):IntKind.u8.wrap (IntKind.u8.wrap ((2:Int)^min (8-n) 8)-1)=((2^(8-n)-1:Nat):Int):=by
 have:n=1\/n=2\/n=3\/n=4\/n=5\/n=6\/n=7\/n=8:=by omega
 rcases this with rfl|rfl|rfl|rfl|rfl|rfl|rfl|rfl<;>decide
theorem irev8 (n:Nat) (h:n<=8):IntKind.i64.wrap (8-(n:Int))=((8-n:Nat):Int):=by rw[IntKind.wrap_i64];omega
theorem u8m (x:Nat):IntKind.u8.wrap (x:Int)=((x % 256:Nat):Int):=by rw[IntKind.wrap_u8];omega
theorem u8e (x:Nat):(x:Int) % 256=((x % 256:Nat):Int):=by omega
theorem hencode_any (s:ByteArray) (hs:s.size<=1000000000) (w:World):Calls Tryz.prog 174 #[.string s] w (PutPost (Hk.encH s.data.toList) w):=by
 have h3:s.data.toList.length=s.size:=by simp
 have HH:=hid (And.intro h3 hs);have HF:(0:Int)<=(s.size:Int):=by omega
 clear h3 hs;go_enter Tryz.func174,Tryz.ntmps174;go_wp2_with fail;refine(hcodes_any w).mono ?_;rintro e w0 ⟨v,rfl,⟨cs,rfl,hC,hD⟩,hE⟩;obtain⟨Z,hz,hV⟩:=store_cod cs hC hD;have hQ:=hV w0;have hF:=hid (show Ct (w0.alloc (.cells cs 250)) w0.heap.size 250 cd from⟨cs,Blk.new w0 _ cs,hC,hD⟩);have hG:=hid (hE.alloc hE.size (.cells cs 250));clear hV hE hD;go_upto_region 2 with fail;clear hQ hz hC;obtain⟨g,hg⟩:∃g,w0.heap.size=g:=⟨_,rfl⟩;rw[hg]at hF ⊢;clear hg;generalize w0.alloc (.cells cs 250)=w1 at*
 go_upto_region 3 with(first
  |(at_make
    refine wpList_mk _ byteP rfl _ _ rfl w1.heap.size .i64 .i64 _ s.size rfl rfl ?_ ?_ (Nat.le_refl _) ?_
    · rfl
    · have:=HH.out.2;omega
    intro w2 hW hX;have H9:=hid hW;have Ha:=hid ((Below.refl w1.heap.size w1).grown hX (Nat.le_refl _) (by simp));clear hW hX)
  |fail)
 have h4:∀e w',PutPost (Hk.encH s.data.toList) w1 e w'->PutPost (Hk.encH s.data.toList) w e w':=λe w' h=>by
  obtain⟨A,c,e1,h1,h2⟩:=h;exact⟨A,c,e1,h1.base hG.out.size,hG.out.trans (h2.mono hG.out.size)⟩
 have hY:=hid h4;clear h4;go_upto_region 5 with fail;go_loopw [4,5,6,16] (λt4 t5 t6 t16 wr=>∃(i:Nat) (out:List UInt8) (x n:Nat),i<=s.size/\n<8/\t16= .int .i64 (i:Nat)/\Hid (EJ w1 g (encB (Hk.nats (s.data.toList.take i))) out x n t4 t5 t6 wr)) (λ_ _ _ t16 _=>s.size-(intOf t16).toNat)
 case atStart=>exact⟨0,[],0,0,Nat.zero_le _,by decide,rfl,hid ⟨EncI.nil,rfl,rfl,H9.out,Ha.out⟩⟩
 case round=>
  obtain⟨i,out,x,n,hi,hn,rfl,hh⟩:=hrel;obtain⟨rfl,rfl⟩:=And.intro hh.out.t6 hh.out.t7;by_cases h9:i<s.size
  · have Hb:(i:Int)<(s.size:Int):=by omega
    have h1:=idx_i64 s i h9;have hH:=enc_take s.data.toList i (by rw[HH.out.1];exact h9);obtain⟨c,hc⟩:∃c,s.data.toList.getD i 0=c:=⟨_,rfl⟩;rw[hc]at h1 hH;have hj:=c.toNat_lt;have hZ:=sz_bnd (i:=c.toNat) (by omega);have q3:c.toNat<257:=by omega
    have Hc:=hid (λW=>hbits_any c.toNat q3 W);have hl:=cd_lt (s:=c.toNat) q3;have He:=(Ct_below hF.out hh.out.bel hF.out.lt).cell (i:=c.toNat) q3;have H0:=hh.out.inv.lt;have h6:=hh.out.inv.sym c.toNat hl;rw[<-hH]at h6;have H1:=hid h6;have hm:=pow_bnd H0 (by omega) hZ.2 _ hl;have H2:=hid (show i+1<=s.size/\s.size-(i+1)<s.size-i from⟨by omega,by omega⟩);have hR:=hid (show n+sz c.toNat<=37 by omega);have HG:(c.toNat:Int)<257:=by omega
    have HE:(0:Int)<=(c.toNat:Int):=by omega
    have a1:sz c.toNat<=1000:=by omega
    have a2:cd c.toNat<18446744073709551616:=by omega
    have a3:sz c.toNat<=63:=by omega
    have a4:n<=1000:=by omega
    have a5:i<=1000000000000:=by have:=HH.out;omega
    have e5:=zsC _ q3;have Hg:=uw2 (cd c.toNat) a2;have H3:=shl_w x (sz c.toNat) a3 hm.2;have H4:=or_u64 x (cd c.toNat) (sz c.toNat) hl hm.1;have H5:=wadd n (sz c.toNat) a4 a1;have ej:=zs4 i a5;have hS:=hid (show x*2^sz c.toNat+cd c.toNat<18446744073709551616 from hm.1);clear a1 a2 a3 a4 a5 q3;have HO:=hid hh.out.own;have HB:=hid hh.out.bel;clear hH hc h6 hm H0 hZ hl h9 hi hn hh hj;generalize Hh:c.toNat=cn at*
    clear Hh;generalize Hi:x*2^sz cn+cd cn=y2 at*
    generalize Hj:x*2^sz cn=y1 at*
    generalize Hl:n+sz cn=n2 at*
    generalize hT:cd cn=dn at*
    clear Hi Hj Hl hT;generalize sz cn=z at*
    go_wp2_with (first
     |(go_at_call 213
       with_reducible refine Calls.mono (Hc.out _) ?_
       rintro e w3 ⟨rfl,hw⟩;subst w3)
     |fail)
    go_quiet (fail);have hI:=hid (show Ow (wr.drewN nq) w1.heap.size 5 u4 out.length out from HO.out);have ht:=hid (show Below w1.heap.size w1 (wr.drewN nq)from bdN HB.out nq);clear HO HB;generalize wr.drewN nq=wd at*
    go_wp2_with fail;have Hm:=hid H5;clear H5 e5 Hg H3 H4 h1 He;go_loopw [4,6] (λt4 t6 wr=>∃(out:List UInt8) (n:Nat),n<=37/\Hid (EJ2 w1 g (encB (Hk.nats (s.data.toList.take (i+1)))) out y2 n t4 t6 wr)) (λ_ t6 _=>(intOf t6).toNat)
    case atStart=>exact⟨out,n2,hR.out,hid ⟨by rw[Nat.mod_eq_of_lt H1.out.lt];exact H1.out,by first|rfl|rw[Hm.out],hI.out,ht.out⟩⟩
    case round=>
     obtain⟨out2,m,he,hk⟩:=hrel;obtain rfl:=hk.out.t6;by_cases h8:8<=m
     · have Hn:(8:Int)<=(m:Int):=by omega
       have hu:=hk.out.inv.byte h8;rw[<-mod_div y2 m h8,mod_mod8 y2 m h8]at hu;have h3:=hk.out.inv.len;rw[encB_sum]at h3;have hsz:=sumZ_le (s.data.toList.take (i+1));rw[List.length_take]at hsz;have hJ:=hid (show out2.length+1<=140737488355328 by have:=HH.out;omega);have a1:m<=1000:=by omega
       have a2:m-8<=63:=by omega
       have a5:0<=((m-8:Nat):Int):=by omega
       have hK:=hid (show m-8<m/\m-8<=37 from⟨by omega,by omega⟩);have k1:=wsub8 m h8 a1;have HI:=shr_w y2 (m-8) a2;have Ho:=u8e (y2/2^(m-8));have k3:=u8m (y2/2^(m-8));clear a1 a2;have Hp:=hid hu.2;have hL:=hid (u8n (y2/2^(m-8) % 256) hu.1);clear hu h3 hsz he;generalize Hq:y2/2^(m-8) % 256=q at*
       generalize Hs:y2/2^(m-8)=q3 at*
       generalize Ht:m-8=m2 at*
       clear Hq Hs Ht h8;have HO:=hid (hk.out.own.alloc (.cells #[.int .u8 (q:Int)] 5));have hM:=hid (Rd.one wr (q:Int) (UInt8.ofNat q) 5 hL.out);have h5:=hid (hk.out.bel.alloc hk.out.bel.size (.cells #[.int .u8 (q:Int)] 5));obtain⟨A1,c1,e5,_,_,_⟩:=hk.out.own.form;subst e5;clear hk;go_wp2_with (first
        |(at_builtin
          refine wpList_app_any _ byteP rfl (.tmp 44) (.tmp 50) rfl w1.heap.size _ out2.length out2 rfl HO.out (wr.heap.size+1) (some ⟨wr.heap.size,0,none⟩) 1 1 [UInt8.ofNat q] rfl hM.out hJ.out h5.out.size ?_;intro A3 c3 w3 hb hd _ _ _;have hN:=hid hb;have hO:=hid (h5.out.grown hd h5.out.size (λg hg=>(HO.out.lt hg).2));clear hb hd)
        |fail)
       go_roundw
       case rel=>exact⟨out2++[UInt8.ofNat q],m2,hK.out.2,hid ⟨Hp.out,by first|rfl|rw[k1],by rw[List.length_append];exact hN.out,hO.out⟩⟩
       case measure=>first|exact hK.out.1|(rw[k1];exact hK.out.1)
     · have Hn:¬(8:Int)<=(m:Int):=by omega
       have Hu:=hid (show m<8 by omega);have HK:=hid hk.out;have a3:m<=63:=by omega
       have hp:=pow_63 (n:=m) a3;have HN:=one_w m a3;have k4:=uw3 (2^m) hp.2 hp.1;have hf:=and_u64 y2 m (by omega) hS.out;have Hv:=hid (show IntKind.u64.wrap (IntKind.u64.wrap ((2:Int)^m)-1)=((2^m-1:Nat):Int)by rw[one_m m a3,k4]);clear h8 hk he hp a3;generalize Hx:2^m-1=p1 at*
       generalize H7:2^m=pp at*
       have Hy:=hid H7;clear Hx H7;generalize H8:y2 % pp=r9 at*
       have HC:=hid H8;clear H8;go_wp2_with fail;go_roundw
       case rel=>exact⟨i+1,out2,r9,m,H2.out.1,Hu.out,by rw[ej],hid ⟨by rw[<-HC.out,<-Hy.out];exact HK.out.inv,by first|rfl|rw[hf]|rw[Hv.out,hf],rfl,HK.out.own,HK.out.bel⟩⟩
       case measure=>rw[ej];simp only[intOf];have:=H2.out.2;omega
  · obtain rfl:i=s.size:=by omega
    have Hb:¬((s.size:Nat):Int)<(s.size:Int):=by omega
    have h7:s.data.toList.take s.size=s.data.toList:=by rw[<-HH.out.1];exact List.take_length
    rw[h7]at hh;by_cases h0:n=0
    · subst h0
      have HV:=hid (show out=Hk.encH s.data.toList from hh.out.inv.whole);have HO:=hid hh.out.own;have HB:=hid hh.out.bel;obtain⟨A1,c1,e5,_,_,_⟩:=hh.out.own.form;subst e5;clear hh h7 hi h9 hn;go_wp2_with fail;go_ret;refine hY.out _ _ ?_;rw[<-HV.out];exact⟨_,_,rfl,HO.out,HB.out⟩
    · have HQ:(0:Int)<(n:Int):=by omega
      have hA:=hh.out.inv.last hn (by omega);have h3:=hh.out.inv.len;rw[encB_sum]at h3;have hsz:=sumZ_le s.data.toList;have hJ:=hid (show out.length+1<=140737488355328 by have:=HH.out;omega);have hP:x*2^(8-n)<256:=by omega
      have a1:n<=8:=by omega
      have a4:8-n<=63:=by omega
      have a5:x*2^(8-n)<18446744073709551616:=by omega
      have a6:0<n:=by omega
      have H4:=or_u8 x (2^(8-n)-1) (8-n) (Nat.sub_lt (Nat.pow_pos (by decide)) (by decide)) hA.1;have k1:=wrev8 n a1;have k2:=irev8 n a1;have H3:=shl_w x (8-n) a4 a5;have Ho:((x*2^(8-n):Nat):Int) % 256=((x*2^(8-n):Nat):Int):=modw _ hP;have k3:=u8w _ hP;have HV:=hid (show out++[UInt8.ofNat (x*2^(8-n)+(2^(8-n)-1))]=Hk.encH s.data.toList from hA.2);have hL:=hid (u8n _ hA.1);have HD:=hid hh.out.own;have hU:=hid hh.out.bel;obtain⟨A1,c1,e5,_,_,_⟩:=hh.out.own.form;subst e5;have HR:=pow_bits8 n a6 a1;clear hh h7 hi h9 hA h3 hsz hP hn h0 a1 a4 a5 a6;generalize hq:x*2^(8-n)+(2^(8-n)-1)=q at*
      generalize hy:x*2^(8-n)=y at*
      generalize ho:2^(8-n)-1=o at*
      generalize hr:8-n=r at*
      clear hq hy ho hr;have hI:=hid (show Ow wr.drew w1.heap.size 5 (.slice A1 out.length c1) out.length out from HD.out);have ht:=hid (show Below w1.heap.size w1 wr.drew from hU.out.drew);have HO:=hid (hI.out.alloc (.cells #[.int .u8 (q:Int)] 5));have hM:=hid (Rd.one wr.drew (q:Int) (UInt8.ofNat q) 5 hL.out);have h5:=hid (ht.out.alloc ht.out.size (.cells #[.int .u8 (q:Int)] 5));go_wp2_with fail;go_region_law (first
       |(refine step_app byteP _ (by rfl) (.tmp 60) (.tmp 71) (by rfl) w1.heap.size _ out.length out (by rfl) HO.out (wr.drew.heap.size+1) (some ⟨wr.drew.heap.size,0,none⟩) 1 1 [UInt8.ofNat q] (by rfl) hM.out hJ.out h5.out.size ?_
         intro A3 c3 w3 hb hd _ _;have hN:=hid hb;have hO:=hid (h5.out.grown hd h5.out.size (λg hg=>(HO.out.lt hg).2));clear hb hd)
       |fail)
      all_goals
       go_wp2_with fail;go_ret;refine hY.out _ _ ?_;rw[<-HV.out];have h3:(out++[UInt8.ofNat q]).length=out.length+1:=by rw[List.length_append];rfl
       exact⟨A3,c3,by rw[h3];rfl,by rw[h3];exact hN.out,hO.out⟩
end Go.Proofs.YtkpppjhbmnfmkaaGreatDoor
end

section
namespace Go.Proofs.YtkpppjhbmnfmkaaGreatDoor
open Go.RowKit Go.Own Go.Own.Hf
attribute [local go_sem] Oper.semAt_some
theorem str_cells (s:ByteArray):Lib.strCells s=s.data.toList.map bv:=by
 simp[Lib.strCells,bv]
theorem wpList_app_str {ops:Array Oper} {rest:List Oper} {o:Oper} {a:Act} {Q:Exit->Act->World->Prop} (w:World) (hgd:o.guard=none) (sl x:Operand)
 (ho:o.op= .call {callee:=.builtin .append,args:=#[sl,x],argTypes:=#[22,9]})
 (base:Nat) (v:Value) (n:Nat) (l:List UInt8) (hs:a.eval sl=v) (hown:Ow w base 5 v n l) (s:ByteArray) (hx:a.eval x= .string s) (hb:n+s.size<=140737488355328) (hbase:base<=w.heap.size)
 (h:∀A' c' w',Ow w' base 5 (.slice A' (n+s.size) c') (n+s.size) (l++s.data.toList)->w.grownBy w' v.ownBlock->wpList Tryz.prog ops Q rest (a.put o.dst (.slice A' (n+s.size) c')) w'):wpList Tryz.prog ops Q (o::rest) a w:=by
 obtain⟨i0,hi,h0,h3,h4⟩:=info_parts byteInfo;refine Lib.wpList_append_own_string _ hgd sl x 22 9 ho base 5 i0 Tryz.underlying22 Tryz.underlying9 hi h0 h3 h4 v n (l.map bv) hs hown s hx (by unfold maxLen;omega) hb hbase λv' w' h1 h2 _=>?_;rw[str_cells,<-List.map_append]at h1;have h1:Ow w' base 5 v' (n+s.size) (l++s.data.toList):=h1;obtain⟨A',c',rfl,_⟩:=h1.form;exact h A' c' w' h1 h2
end Go.Proofs.YtkpppjhbmnfmkaaGreatDoor
end

section
set_option maxHeartbeats 4000000
set_option maxRecDepth 100000
namespace Go.Proofs.YtkpppjhbmnfmkaaGreatDoor
open Lib (hid)
open Go.RowKit Go.Own Go.Own.Hf
attribute [local go_sem] Oper.semAt_some
theorem puttext_any (s:ByteArray) (hs:s.size<=1000000000) (A:Option Addr) (N c B:Nat) (l:List UInt8) (w:World) (hr:Rd w B A N l) (hB:B<=w.heap.size) (hN:N<=1000000000):
 Calls Tryz.prog 141 #[.slice A N c,.string s] w (PutB l (Hk.putT s.data.toList) w):=by
 have h0:s.data.toList.length=s.size:=by simp
 have HS:=hid (λW=>fsize_any s hs W);have hz:=sumZ_le s.data.toList;have hsz:=sizeH_is s.data.toList;have HL:=hid h0;have hm:=hid (show l.length=N from hr.1);rw[<-hsz]at HS;by_cases h8:Hk.sizeH s.data.toList<s.size
 · have HV:=hid (show l++Hk.putT s.data.toList=(l++Hk.putI 128 7 (Hk.sizeH s.data.toList))++Hk.encH s.data.toList by unfold Hk.putT;rw[if_pos (by rw[h0];exact h8),List.append_assoc])
   have HE:=hid (λW=>hencode_any s hs W);have h9:=Hk.encH_len s.data.toList;have hn:Hk.sizeH s.data.toList<=2147483647:=by omega
   have hd:=hid (λW (hb:Below w.heap.size w W)=>show Calls Tryz.prog 138 _ W (PutPost (l++Hk.putI 128 7 (Hk.sizeH s.data.toList)) W)from putG_128_7 (Hk.sizeH s.data.toList) hn A N c w.heap.size l W ((hr.more hB).below hb) hb.size hN);have he:=Hk.putI_len 128 7 (Hk.sizeH s.data.toList);have HB:=hid (show(l++Hk.putI 128 7 (Hk.sizeH s.data.toList)).length+(Hk.encH s.data.toList).length<=140737488355328 by rw[Hk.encH_len,List.length_append,hm.out];omega);have hc:(Hk.sizeH s.data.toList:Int)<(s.size:Int):=by omega
   rw[<-h9]at hd hn HB;rw[<-h9]at HS hc;rw[<-h9]at HV;clear hs h0 hz hsz h8 h9 hn he hr hB hN;generalize l++Hk.putI 128 7 (Hk.encH s.data.toList).length=p at*
   generalize Hk.encH s.data.toList=q at*
   obtain⟨r,h2⟩:∃r,Hk.putT s.data.toList=r:=⟨_,rfl⟩;rw[h2]at HV ⊢;clear h2;go_enter Tryz.func141,Tryz.ntmps141;go_wp2_with fail;refine(HS.out w).mono ?_;rintro e w1 ⟨rfl,hw⟩;subst w1;go_wp2_with fail;refine(HE.out w).mono ?_;rintro e w2 ⟨A2,c2,rfl,h3,h4⟩;have h5:=hid h3;have h1:=hid h4;clear h3 h4;go_wp2_with fail;refine(hd.out w2 h1.out).mono ?_;rintro e w3 ⟨A3,c3,rfl,ho,hf⟩;have hq:=hid (ho.base h1.out.size);have hh:=hid (h1.out.trans (hf.mono h1.out.size));have hk:=hid (h5.out.below hf (λg hg=>(h5.out.lt hg).1));clear ho hf;go_wp2_with (first
    |(at_builtin
      refine wpList_app_any _ byteP rfl (.tmp 16) (.tmp 17) rfl w.heap.size _ p.length p rfl hq.out w3.heap.size A2 q.length c2 q rfl hk.out.rd HB.out hh.out.size ?_;intro A4 c4 w4 h6 h7 _ _ _;have hi:=hid h6;have hj:=hid (hh.out.grown h7 hh.out.size (λg hg=>(hq.out.lt hg).2));clear h6 h7)
    |fail)
   go_ret;unfold PutB;rw[HV.out];exact⟨A4,c4,by rw[List.length_append];rfl,by rw[List.length_append];exact hi.out,hj.out⟩
 · have HV:=hid (show l++Hk.putT s.data.toList=(l++Hk.putI 0 7 s.size)++s.data.toList by unfold Hk.putT;rw[if_neg (by rw[h0];exact h8),h0,List.append_assoc])
   have hd:=hid (λW (hb:Below w.heap.size w W)=>show Calls Tryz.prog 138 _ W (PutPost (l++Hk.putI 0 7 s.size) W)from putG_0_7 s.size (by omega) A N c w.heap.size l W ((hr.more hB).below hb) hb.size hN);have he:=Hk.putI_len 0 7 s.size;have HB:=hid (show(l++Hk.putI 0 7 s.size).length+s.size<=140737488355328 by rw[List.length_append,hm.out];omega);have hc:¬(Hk.sizeH s.data.toList:Int)<(s.size:Int):=by omega
   clear hs h0 hz hsz h8 he hr hB hN;generalize l++Hk.putI 0 7 s.size=p at*
   obtain⟨r,h2⟩:∃r,Hk.putT s.data.toList=r:=⟨_,rfl⟩;rw[h2]at HV ⊢;clear h2;generalize Hk.sizeH s.data.toList=k at*
   go_enter Tryz.func141,Tryz.ntmps141;go_wp2_with fail;refine(HS.out w).mono ?_;rintro e w1 ⟨rfl,hw⟩;subst w1;go_wp2_with fail;refine(hd.out w (Below.refl _ _)).mono ?_;rintro e w2 ⟨A2,c2,rfl,h3,h4⟩;have h5:=hid h3;have h1:=hid h4;clear h3 h4;go_wp2_with (first
    |(at_builtin
      refine wpList_app_str _ rfl (.tmp 22) (.tmp 23) rfl w.heap.size _ p.length p rfl h5.out s rfl HB.out h1.out.size ?_;intro A4 c4 w4 h6 h7;have hi:=hid h6;have hj:=hid (h1.out.grown h7 h1.out.size (λg hg=>(h5.out.lt hg).2));clear h6 h7)
    |fail)
   go_ret;unfold PutB;rw[HV.out];have hl:(p++s.data.toList).length=p.length+s.size:=by rw[List.length_append,HL.out]
   exact⟨A4,c4,by rw[hl];rfl,by rw[hl];exact hi.out,hj.out⟩
end Go.Proofs.YtkpppjhbmnfmkaaGreatDoor
end
