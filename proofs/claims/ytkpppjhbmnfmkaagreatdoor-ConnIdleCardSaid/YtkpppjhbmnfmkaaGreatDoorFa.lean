import Derived.Test.YtkpppjhbmnfmkaaGreatDoorProg
import Derived.Test.YtkpppjhbmnfmkaaGreatDoorJaa
import Derived.Test.YtkpppjhbmnfmkaaGreatDoorJad
import Derived.Test.YtkpppjhbmnfmkaaGreatDoorJae
import Derived.WalkKit
import Derived.Lib.Hide
import Derived.LoopTactic
import Derived.Outline
set_option linter.unusedSimpArgs false
set_option linter.unusedVariables false
set_option maxHeartbeats 1000000
set_option maxRecDepth 100000
namespace Go.Own.Fr
open Lib (hid)
open Go Go.RowKit Go.Own
theorem byte_of (n q:Nat):((n:Int)/2^(8*q)) % 256=((UInt8.ofNat (n/256^q)).toNat:Int):=by
 have e:(256:Nat)^q=2^(8*q):=by rw[Nat.pow_mul]
 rw[UInt8.toNat_ofNat',e];simp
theorem or_byte (a c:Nat) (ha:a<281474976710656) (hc:c<256):bits .or .i64 ((a:Int)*256) (c:Int)=((a*256+c:Nat):Int):=by
 have h:=or_nat (a*256) c (by omega) (by omega);rw[show a*256|||c=a*256+c by
  have:=Nat.two_pow_add_eq_or_of_lt (i:=8) (b:=c) (by omega) a;rw[show 2^8*a=a*256 by omega]at this;exact this.symm]at h
 rw[<-h];simp
def NumRel (w:World) (base:Nat) (e:TypeId) (v:Value) (m:Nat) (xs:List UInt8) (n k:Nat) (out iv:Value) (wr:World):Prop:=
 ∃(r:Nat) (pre:List UInt8),r<=k/\iv= .int .i64 ((r:Int)-1)/\be n k=pre++be n r/\pre.length+r=k/\Ow wr base e out (m+(k-r)) (xs++pre)/\w.grownBy wr v.ownBlock/\
  (out.ownBlock=v.ownBlock\/∃g,out.ownBlock=some g/\w.heap.size<=g)
end Go.Own.Fr
namespace Go.Proofs.YtkpppjhbmnfmkaaGreatDoor
open Lib (hid)
open Go.RowKit Go.Own Go.Own.Fr
theorem byteInfo:(Tryz.prog.info? 5).map (λi=>(i.zero,i.size,i.bytes))=some (some (.int .u8 0),1,1):=by kernel_rfl
theorem byteP:ByteP Tryz.prog 22 5:=⟨Tryz.underlying22,info_parts byteInfo⟩
theorem fcopied_any (A:Option Addr) (n c:Nat) (l:List UInt8) (w:World) (B:Nat) (hr:Rd w B A n l) (hB:B<=w.heap.size) (hn:n<=1000000000000):
 Calls Tryz.prog 102 #[.slice A n c] w λe w'=>e= .returned (.slice (some ⟨w.heap.size,0,none⟩) n n)/\
  Ow w' w.heap.size 5 (.slice (some ⟨w.heap.size,0,none⟩) n n) n l/\Below w.heap.size w w':=by
 have HR:=hid hr;clear hr;go_enter Tryz.func102,Tryz.ntmps102;go_wp2_with (first
  |(at_make
    refine wpList_mk _ byteP rfl _ _ rfl w.heap.size .i64 .i64 _ n rfl rfl ?_ ?_ (Nat.le_refl _) ?_
    · rfl
    · omega
    intro w1 h2 h3;have h0:Below w.heap.size w w1:=(Below.refl _ _).grown h3 (Nat.le_refl _) (by simp);have h4:=hid ((HR.out.more hB).below h0))
  |(at_builtin
    refine wpList_app_fits _ byteP rfl (.tmp 5) (.tmp 6) rfl w.heap.size w.heap.size 0 n [] rfl h2 w.heap.size A n c l rfl h4.out ?_ ?_
    · omega
    intro w2 h1 h5;have h6:Below w.heap.size w w2:=h0.grown h5 h0.size (by simp)))
 go_ret;simp only[Nat.zero_add,List.nil_append]at h1 ⊢;exact⟨rfl,h1,h6⟩
theorem number_any (v:Value) (m:Nat) (xs:List UInt8) (n k base:Nat) (w:World) (ho:Ow w base 5 v m xs) (h0:base<=w.heap.size) (hm:m<=1000000000000) (hk:k<=8) (hn:n<9223372036854775808):
 Calls Tryz.prog 108 #[v,.int .i64 (n:Int),.int .i64 (k:Int)] w λe w'=>∃v',e= .returned v'/\Ow w' base 5 v' (m+k) (xs++be n k)/\w.grownBy w' v.ownBlock/\
  (v'.ownBlock=v.ownBlock\/∃g,v'.ownBlock=some g/\w.heap.size<=g):=by
 have HO:=hid ho;clear ho;go_enter Tryz.func108,Tryz.ntmps108;go_wp2;go_loopw [0,7] (λout iv wr=>Hid (NumRel w base 5 v m xs n k out iv wr)) (λ_ iv _=>(intOf iv+1).toNat)
 case atStart=>exact hid ⟨k,[],Nat.le_refl _,by go_num,rfl,by simp,by simpa using HO.out,World.grownBy.refl w _,.inl rfl⟩
 case round=>
  obtain⟨r,pre,hr,rfl,h1,hf,ho,hg,h3⟩:=hrel.out;clear hrel;have HB:=hid h1;clear h1;obtain⟨A0,cap0,rfl,_,_,_⟩:=ho.form;have h4:=hid ho;clear ho HO;have HG:=hid hg;clear hg;have HW:=hid h3;clear h3;rcases r with _|q
  · go_wp2
    go_ret;have e:be n k=pre:=by rw[HB.out];simp[be]
    rw[e];exact⟨_,rfl,by simpa using h4.out,HG.out,HW.out⟩
  · have e1:((q+1:Nat):Int)-1=(q:Int):=by omega
    rw[e1];have h8:(0:Int)<=8*(q:Int):=by omega
    have HY:=hid (byte_of n q);have hsz:base<=wr.heap.size:=Nat.le_trans h0 HG.out.size;go_wp2_with (first
     |(at_builtin
       refine wpList_app_any _ byteP rfl (.tmp 14) (.tmp 20) rfl base _ (m+(k-(q+1))) (xs++pre) rfl (h4.out.alloc _) _ _ 1 1 _ rfl (Rd.one _ _ (UInt8.ofNat (n/256^q)) _ HY.out) ?_ ?_ ?_
       · omega
       · simp;omega
       intro A' cap' w2 h5 h6 h7 hh hi;have hc:=hid h5;clear h5;have hd:=hid h6;clear h6;have he:=hid h7;clear h7))
    have e2:m+(k-(q+1))+1=m+(k-q):=by omega
    have h9:=hc.out;rw[List.append_assoc,e2]at h9;rw[e2];refine⟨hid ⟨q,pre++[UInt8.ofNat (n/256^q)],by omega,rfl,?_,by simp;omega,h9,?_,?_⟩,by simp[intOf]⟩
    · rw[HB.out]
      simp[be]
    · refine(grown_alloc HG.out _).andThen hd.out λj hj=>?_
      rcases HW.out with h|⟨g,h,hg⟩
      · exact .inr (h.symm.trans hj)
      · exact .inl (by have h2:=h.symm.trans hj;injection h2 with h2;omega)
    · have hb:=he.out
      rw[e2]at hb;rcases hb with h|h
      · rw[h]
        exact HW.out
      · exact .inr ⟨_,h,by simp;have:=HG.out.size;omega⟩
theorem of_any (A:Option Addr) (n c:Nat) (l:List UInt8) (w:World) (B:Nat) (hr:Rd w B A n l) (hn:n<=4):
 Calls Tryz.prog 113 #[.slice A n c] w λe w'=>e= .returned (.int .i64 (ofB 0 l:Nat))/\w'=w:=by
 have hl:=hr.1;have HR:=hid hr;clear hr;go_enter Tryz.func113,Tryz.ntmps113;go_wp2;go_loopw [3,8] (λnv iv wr=>wr=w/\∃j:Nat,j<=n/\iv= .int .i64 (j:Int)/\nv= .int .i64 (ofB 0 (l.take j):Nat)) (λ_ iv _=>n-(intOf iv).toNat)
 case atStart=>exact⟨rfl,0,Nat.zero_le _,rfl,rfl⟩
 case round=>
  obtain⟨rfl,j,hj,rfl,rfl⟩:=hrel;by_cases h4:j<n
  · obtain⟨ad,rfl,hb,hc⟩:=HR.out.at_ h4
    have ha:ofB 0 (l.take j)<281474976710656:=by
     have h1:=ofB_lt (l.take j) 0;have h2:(l.take j).length<=3:=by rw[List.length_take];omega
     have h3:256^(l.take j).length<=256^3:=Nat.pow_le_pow_right (by omega) h2;omega
    have e:ofB 0 (l.take (j+1))=ofB 0 (l.take j)*256+(l.getD j 0).toNat:=by
     rw[List.take_succ_eq_append_getElem (show j<l.length by omega),ofB_app,ofB_cons,ofB_nil];rw[List.getD,List.getElem?_eq_getElem (show j<l.length by omega)]
     rfl
    have HE:=hid e;clear e;generalize ofB 0 (l.take j)=a at*
    obtain⟨x,hx⟩:∃x:Nat,(l.getD j 0).toNat=x:=⟨_,rfl⟩;have h0:x<256:=by rw[<-hx];exact(l.getD j 0).toNat_lt
    rw[hx]at hc;have HX:=hid hx;clear hx;have ho:=or_byte a x ha h0;go_wp2;refine⟨⟨trivial,j+1,by omega,by go_num,?_⟩,by simp[intOf];omega⟩;rw[HE.out,HX.out];simp
  · go_wp2
    go_ret;have:j=n:=by omega
    subst this;rw[<-hl,List.take_length];exact⟨rfl,rfl⟩
theorem low_any (n:Nat) (w:World) (hn:n<9223372036854775808):Calls Tryz.prog 114 #[.int .i64 (n:Int)] w λe w'=>e= .returned (.int .i64 (low n:Nat))/\w'=w:=by
 have h:=and_low n hn;go_enter Tryz.func114,Tryz.ntmps114;go_wp2;go_ret;exact⟨rfl,rfl⟩
theorem byteOf_yes (n:Int) (w:World) (h0:0<=n) (h1:n<=255):Calls Tryz.prog 106 #[.int .i64 n] w λe w'=>e= .returned (.bool true)/\w'=w:=by
 go_enter Tryz.func106,Tryz.ntmps106;go_wp2;go_ret;exact⟨rfl,rfl⟩
theorem fstream_yes (n:Int) (w:World) (h0:0<=n) (h1:n<=2147483647):Calls Tryz.prog 107 #[.int .i64 n] w λe w'=>e= .returned (.bool true)/\w'=w:=by
 go_enter Tryz.func107,Tryz.ntmps107;go_wp2;go_ret;exact⟨rfl,rfl⟩
end Go.Proofs.YtkpppjhbmnfmkaaGreatDoor
