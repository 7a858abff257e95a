import Derived.Test.YtkpppjhbmnfmkaaGreatDoorJai
set_option linter.unusedSimpArgs false
set_option linter.unusedVariables false
namespace Go.Proofs.YtkpppjhbmnfmkaaGreatDoor
open Go.RowKit Go.Own Go.Own.Fr Go.Own.Im
theorem wrPost_of {W w':World} {e:Ending} {k:Nat} {p:List UInt8} (h:∃v,e= .returned v/\Ow w' W.heap.size 5 v k p/\Below W.heap.size W w'):WrPost W p e w':=by
 obtain⟨v,rfl,ho,hb⟩:=h;obtain⟨A,c,rfl,_,_,hr⟩:=ho.form;exact⟨A,k,c,rfl,hr,hb⟩
theorem setR_nil (W:World):SetR W (.slice none 0 0) []:=⟨none,0,rfl,Nat.le_refl _,Cm.RS.nil⟩
theorem rd_nil0 (W:World) (B:Nat):Rd W B none 0 []:=⟨rfl,λh=>absurd h (by omega)⟩
theorem enter_wrReset:Enters Tryz.prog 184:=enters_of Tryz.func184 (by kernel_rfl) rfl
theorem enter_wrSets:Enters Tryz.prog 186:=enters_of Tryz.func186 (by kernel_rfl) rfl
theorem enter_wrAway:Enters Tryz.prog 190:=enters_of Tryz.func190 (by kernel_rfl) rfl
theorem enter_wrWindow:Enters Tryz.prog 192:=enters_of Tryz.func192 (by kernel_rfl) rfl
theorem enter_data:Enters Tryz.prog 176:=enters_of Tryz.func176 (by kernel_rfl) rfl
structure BuF (W:World) (i:Inf) (cs:Array Value):Prop where
 bld:∀W',Below W.heap.size W W'->Calls Tryz.prog 66 #[.agg cs] W' (BuPost W' i)
 typ:i.typ<=255
 flags:flg i<=255
 stream:i.stream<=2147483647
 len:(pay i).length<=1000000
theorem bld_reset (W:World) (s c:Nat) (h0:s≠0) (hs:s<=2147483647) (hc:c<4294967296):BuF W {typ:=3,stream:=s,code:=c} (infC {typ:=3,stream:=s,code:=c} (.slice none 0 0) (.slice none 0 0)):=by
 have hf:flg {typ:=3,stream:=s,code:=c}=0:=by simp[flg]
 have hl:(pay {typ:=3,stream:=s,code:=c}).length=4:=be_len c 4;refine⟨λW' hb=>?_,by show 3<=255;omega,by rw[hf];omega,hs,by omega⟩;exact build_any {typ:=3,stream:=s,code:=c} none 0 none 0 0 0 184 W' ⟨by simp,by simp,by simp,by simp,hs,by simp,by simp,by simp,hc,by simp,by simp,by simp⟩ (setR_nil W') (rd_nil0 W' 0) (by omega) rfl rfl enter_wrReset
  (λW2 _=>(wrReset {typ:=3,stream:=s,code:=c} _ _ W2 (by show c<_;omega)).mono λe w' h=>wrPost_of h) (by omega) (by rw[hf];exact opn_reset s h0 c hc) (by rw[hf];omega) (by rw[hf];simp[hasF,rowOf]) ⟨by simp,by simp,λh=>by simp at h⟩
theorem bld_win (W:World) (s n:Nat) (h0:0<n) (hn:n<=2147483647) (hs:s<=2147483647):BuF W {typ:=8,stream:=s,inc:=n} (infC {typ:=8,stream:=s,inc:=n} (.slice none 0 0) (.slice none 0 0)):=by
 have hf:flg {typ:=8,stream:=s,inc:=n}=0:=by simp[flg]
 have hl:(pay {typ:=8,stream:=s,inc:=n}).length=4:=be_len n 4;refine⟨λW' hb=>?_,by show 8<=255;omega,by rw[hf];omega,hs,by omega⟩;exact build_any {typ:=8,stream:=s,inc:=n} none 0 none 0 0 0 192 W' ⟨by simp,by simp,by simp,by simp,hs,by simp,by simp,by simp,by simp,by simp,hn,by simp⟩ (setR_nil W') (rd_nil0 W' 0) (by omega) rfl rfl enter_wrWindow
  (λW2 _=>(wrWindow {typ:=8,stream:=s,inc:=n} _ _ W2 (by show n<_;omega)).mono λe w' h=>wrPost_of h) (by omega) (by rw[hf];exact opn_window s n h0 (by omega)) (by rw[hf];omega) (by rw[hf];simp[hasF,rowOf]) ⟨by simp,by simp,λh=>by simp at h⟩
theorem bld_away (W:World) (n c:Nat) (hn:n<=2147483647) (hc:c<4294967296):BuF W {typ:=7,last:=n,code:=c} (infC {typ:=7,last:=n,code:=c} (.slice none 0 0) (.slice none 0 0)):=by
 have hf:flg {typ:=7,last:=n,code:=c}=0:=by simp[flg]
 have hp:pay {typ:=7,last:=n,code:=c}=be n 4++be c 4:=by simp[pay]
 have hl:(pay {typ:=7,last:=n,code:=c}).length=8:=by rw[hp];simp[be_len]
 refine⟨λW' hb=>?_,by show 7<=255;omega,by rw[hf];omega,by simp,by omega⟩;exact build_any {typ:=7,last:=n,code:=c} none 0 none 0 0 0 190 W' ⟨by simp,by simp,by simp,by simp,by simp,by simp,by simp,by simp,hc,hn,by simp,by simp⟩ (setR_nil W') (rd_nil0 W' 0) (by omega) rfl rfl enter_wrAway
  (λW2 _=>(wrAway {typ:=7,last:=n,code:=c} _ none 0 0 0 W2 (rd_nil0 W2 0) (by omega) (by omega) (by show n<_;omega) (by show c<_;omega)).mono λe w' h=>wrPost_of h) (by omega) (by rw[hf,hp];exact opn_goaway n c (by omega) hc) (by rw[hf];omega) (by rw[hf];simp[hasF,rowOf]) ⟨by simp,by simp,λh=>by simp at h⟩
theorem bld_sets (W:World) (l:List (Nat×Nat)) (S:Option Addr) (d:Nat) (hs:SetR W (.slice S l.length d) l) (hl:l.length<=1000) (hb:∀s∈l,s.1<65536/\s.2<4294967296/\badSet s=none):BuF W {typ:=4,sets:=l} (infC {typ:=4,sets:=l} (.slice S l.length d) (.slice none 0 0)):=by
 have hf:flg {typ:=4,sets:=l}=0:=by simp[flg]
 have hp:pay {typ:=4,sets:=l}=setB l:=rfl;have h1:(pay {typ:=4,sets:=l}).length=6*l.length:=by rw[hp];exact setB_len l
 refine⟨λW' hw=>?_,by show 4<=255;omega,by rw[hf];omega,by simp,by omega⟩;exact build_any {typ:=4,sets:=l} S d none 0 0 0 186 W' ⟨by show l.length<=_;omega,λs h=>⟨by have:=(hb s h).1;omega,(hb s h).2.1⟩,by simp,by simp,by simp,by simp,by simp,by simp,by simp,by simp,by simp,by simp⟩ (hs.below hw) (rd_nil0 W' 0) (by omega) rfl rfl enter_wrSets
  (λW2 h0=>(wrSets {typ:=4,sets:=l} _ _ W2 ((hs.below hw).below h0) (by show l.length<=_;omega) (λs h=>⟨by have:=(hb s h).1;omega,by have:=(hb s h).2.1;omega⟩)).mono λe w' h=>wrPost_of h) (by omega) (by rw[hf];exact opn_set l hb) (by rw[hf];omega) (by rw[hf];simp[hasF,rowOf]) ⟨by simp,by simp,λh=>by simp at h⟩
theorem bld_ack (W:World):BuF W {typ:=4,ack:=true} (infC {typ:=4,ack:=true} (.slice none 0 0) (.slice none 0 0)):=by
 refine⟨λW' hw=>?_,by show 4<=255;omega,by decide,by simp,by simp[pay,setB]⟩;exact build_any {typ:=4,ack:=true} none 0 none 0 0 0 186 W' ⟨by simp,by simp,by simp,by simp,by simp,by simp,by simp,by simp,by simp,by simp,by simp,by simp⟩ (setR_nil W') (rd_nil0 W' 0) (by omega) rfl rfl enter_wrSets
  (λW2 h0=>(wrSets {typ:=4,ack:=true} _ _ W2 (setR_nil W2) (by simp) (by simp)).mono λe w' h=>wrPost_of h) (by simp[pay,setB]) opn_ack (by decide) rfl ⟨by simp,by simp,λh=>by simp at h⟩
theorem wr_data (i:Inf) (sv:Value) (A:Option Addr) (n c B:Nat) (W:World) (hr:Rd W B A n i.data) (hB:B<=W.heap.size):Calls Tryz.prog 176 #[.agg (infC i sv (.slice A n c))] W (WrPost W i.data):=
 (data_any i sv (.slice A n c) W).mono λe w' ⟨h1,h2⟩=>⟨A,n,c,h1,((hr.more hB).below h2).more h2.size,h2⟩
theorem bld_ping (W:World) (a:Bool) (A:Option Addr) (c B:Nat) (l:List UInt8) (hr:Rd W B A 8 l) (hB:B<=W.heap.size):BuF W {typ:=6,ack:=a,data:=l} (infC {typ:=6,ack:=a,data:=l} (.slice none 0 0) (.slice A 8 c)):=by
 have hl:=hr.1;have hp:pay {typ:=6,ack:=a,data:=l}=l:=rfl;have hf:flg {typ:=6,ack:=a,data:=l}=if a then 1 else 0:=by cases a<;>simp[flg]
 refine⟨λW' hw=>?_,by show 6<=255;omega,by rw[hf];split<;>omega,by simp,by rw[hp];omega⟩;exact build_any {typ:=6,ack:=a,data:=l} none 0 A 8 c W.heap.size 176 W' ⟨by simp,by simp,by simp,by simp,by simp,by simp,by simp,by simp,by simp,by simp,by simp,by simp⟩ (setR_nil W') ((hr.more hB).below hw) hw.size rfl rfl enter_data
  (λW2 h0=>wr_data _ _ A 8 c W.heap.size W2 (((hr.more hB).below hw).below (h0.mono hw.size)) (Nat.le_trans hw.size h0.size)) (by rw[hp];omega) (by rw[hf,hp];exact opn_ping a l hl) (by rw[hf];split<;>omega) (by rw[hf];cases a<;>simp[hasF,rowOf]) ⟨by simp,by simp,λh=>by simp at h⟩
end Go.Proofs.YtkpppjhbmnfmkaaGreatDoor
