import Derived.Test.YtkpppjhbmnfmkaaGreatDoorJap
import Derived.Test.YtkpppjhbmnfmkaaGreatDoorJar
import Derived.Test.YtkpppjhbmnfmkaaGreatDoorJak
import Derived.Test.YtkpppjhbmnfmkaaGreatDoorKu
set_option linter.unusedSimpArgs false
set_option linter.unusedVariables false
set_option maxHeartbeats 4000000
set_option maxRecDepth 100000
namespace Go.Proofs.YtkpppjhbmnfmkaaGreatDoor
open Go.RowKit Go.Own Go.Own.Im Go.Own.Cx Go.Own.Fr Go.Own.Hd
theorem works1_q (w:World) (ow:Nat->Tg) (b g:Nat) (M:Cv) (Q:Ending->World->Prop) (L:Lay) (i:Inf) (sv dv sz:Value) (h:CN w ow b M L) (hg:Blk w g 26 #[.pointer (some ⟨b,0,none⟩)]) (h6:ow g= .no) (h0:M.side=2) (hid:i.stream % 2=1)
 (hp:∀W ow' L',CN W ow' b {M with list:=some (i.stream,i.endd,[])} L'->Fr w ow W ow'->Calls Tryz.prog 150 #[.pointer (some ⟨b,0,none⟩),.agg (infC i sv dv)] W Q) (h2:∀e w',Q e w'->e= .returned (.tuple #[])\/∃cs,e= .panicked cs):
 Calls Tryz.prog 149 #[.agg (infC i sv dv),sz,.pointer (some ⟨g,0,none⟩)] w Q:=by
 have HX:=Lib.hid (Blk.new w 91 (infC i sv dv));have h4:=Lib.hid ((Below.refl w.heap.size w).alloc (Nat.le_refl _) (.cells (infC i sv dv) 91));have HC:=Lib.hid h;have HG:=Lib.hid hg;have hb:=Lib.hid h6;have HP:=Lib.hid hp;have h5:=Lib.hid h2;have hm:((i.stream:Int).tmod 2)=1:=by
  have:((i.stream:Int).tmod 2)=((i.stream % 2:Nat):Int):=rfl;rw[this,hid];rfl
 have hi:((i.stream:Int) % 2)=1:=by
  have:((i.stream:Int) % 2)=((i.stream % 2:Nat):Int):=rfl;rw[this,hid];rfl
 have HS:=Lib.hid h0;clear h hg h6 hp h0 h2;go_enter Tryz.func149,Tryz.ntmps149;go_upto_region 1 with fail;generalize w.alloc (.cells (infC i sv dv) 91)=W0 at*
 have h3:=Lib.hid (HC.out.below h4.out);have h7:=Lib.hid (HG.out.below h4.out HG.out.lt);have c0:W0.cell? ⟨b,0,none⟩=some (.int .i64 (M.side:Nat)):=h3.out.blk.cell 0;rw[HS.out]at c0;have g0:W0.cell? ⟨g,0,none⟩=some (.pointer (some ⟨b,0,none⟩)):=h7.out.cell 0;have x2:W0.cell? ⟨w.heap.size,2,none⟩=some (.int .i64 (i.stream:Nat)):=HX.out.cell 2;have x3:W0.cell? ⟨w.heap.size,3,none⟩=some (.bool i.endd):=HX.out.cell 3;go_upto_region 3 with fail;have HN:=Lib.hid (h3.out.begins i.stream i.endd);have f16:(W0.alloc (.cells #[.int .i64 (i.stream:Nat),.bool i.endd,.slice none 0 0] 195)).frozen? ⟨b,16,none⟩=false:=(h3.out.blk.alloc _).frozen 16;have y16:(W0.alloc (.cells #[.int .i64 (i.stream:Nat),.bool i.endd,.slice none 0 0] 195)).cell? ⟨b,16,none⟩=some L.list:=(h3.out.blk.alloc _).cell 16;go_upto_region 4 with fail;have hc:=Lib.hid HN.out.1;have hd:=Lib.hid ((Fr.below h4.out ow).trans HN.out.2);have h8:g≠b:=λe=>by have h1:=hb.out;rw[e,HC.out.tb]at h1;cases h1
 have h9:w.heap.size≠b:=by have:=HC.out.blk.lt;omega
 have he:=Lib.hid ((h7.out.alloc (.cells #[.int .i64 (i.stream:Nat),.bool i.endd,.slice none 0 0] 195)).far (p:=⟨b,16,none⟩) h8 (.pointer (some ⟨W0.heap.size,0,none⟩)));have hf:=Lib.hid ((HX.out.alloc (.cells #[.int .i64 (i.stream:Nat),.bool i.endd,.slice none 0 0] 195)).far (p:=⟨b,16,none⟩) h9 (.pointer (some ⟨W0.heap.size,0,none⟩)));clear h8 h9 f16 y16 HN c0 g0 x2 x3;generalize (W0.alloc (.cells #[.int .i64 (i.stream:Nat),.bool i.endd,.slice none 0 0] 195)).setCell ⟨b,16,none⟩ (.pointer (some ⟨W0.heap.size,0,none⟩))=W1 at*
 have g0:W1.cell? ⟨g,0,none⟩=some (.pointer (some ⟨b,0,none⟩)):=he.out.cell 0;have hh:=Lib.hid (show(Tryz.prog.info? 91).map (·.size)=some (infC i sv dv).size from infSize);go_wp2_with (first
  |(refine wpList_rowGet _ rfl (.tmp 3) 91 rfl w.heap.size 91 _ rfl hf.out _ Tryz.underlying91 rfl hh.out ?_)
  |fail)
 refine(HP.out W1 _ _ hc.out hd.out).mono ?_;intro e w2 hp;rcases h5.out e w2 hp with rfl|⟨cs,rfl⟩
 · have HQ:=Lib.hid hp
   clear hp;go_wp2;go_end0;exact HQ.out
 · have HQ:=Lib.hid hp
   clear hp;go_wp2;exact⟨rfl,HQ.out⟩
structure IdleM (M:Cv):Prop where
 greeted:M.greeted=true
 list:M.list=none
 strs:M.strs=[]
 last:M.last=0
 side:M.side=1\/M.side=2
 dgone:M.hp.dgone=false
 out:M.out.length<=100000000
 evs:M.evs.length<=800000
 outw:M.outw=65535
 window:0<=M.window/\M.window<=2147483647
 others:0<=M.others/\M.others<=2147483647
 cs:0<M.cs
 bye:M.bye=false
theorem IdleM.known {M:Cv} (h:IdleM M) (id:Nat):knownB M id=false:=by
 unfold knownB;rw[h.last];exact decide_eq_false λe=>by omega
theorem greet_is {M:Cv} (h:IdleM M):({M with greeted:=true}:Cv)=M:=greet_same h.greeted
theorem opn_call {w:World} (t f s:Nat) (A:Option Addr) (n c:Nat) (l:List UInt8) (hc:n<=c) (hn:n<=16384) (ht:t<=255) (hf:f<=255) (hs:s<=2147483647):∀W:World,Rd W w.heap.size A n l->w.heap.size<=W.heap.size->Calls Tryz.prog 104 #[.agg #[.int .i64 (t:Nat),.int .i64 (f:Nat),.int .i64 (s:Nat),.slice A n c]] W (OpPost W t f s l):=
 λW hr hB=>open_all t f s A n c w.heap.size l W hr hB hc (by omega) ht hf hs
section
variable {M:Cv} {t f s:Nat} {p:List UInt8} {j:Inf}
theorem idle_bad_frame (h:IdleM M) (x:Nat×Nat) (ho:opn t f s p= .error x) (h9:t≠9) (hn:p.length<=16384) (ht:t<=255) (hf:f<=255) (hs:s<=2147483647):TakesP M t f s p (λM'=>M'=M) x.1 x.2:=by
 intro w ow b L A c hE hc hr h2 h0;have h1:=takes_bad w ow b M L t f s A p.length c p x hc hr h2 h0 hn ht hf hs (opn_call t f s A p.length c p h0 hn ht hf hs) h.list h9 (.inl h.greeted) ho;rw[greet_is h]at h1;exact h1
theorem idle_none_frame (h:IdleM M) (ho:opn t f s p= .ok j) (hw:∀g b,wkF g b (t:Int)=none) (h9:t≠9) (hn:p.length<=16384) (ht:t<=255) (hf:f<=255) (hs:s<=2147483647):TakesT M t f s p (λM'=>M'=M):=by
 intro w ow b L A c hE hc hr h2 h0;have h1:=takes_none w ow b M L t f s A p.length c p j hc hr h2 h0 hn ht hf hs (opn_call t f s A p.length c p h0 hn ht hf hs) h.list h9 (.inl h.greeted) ho (λg=>hw g b);rw[greet_is h]at h1;exact h1
theorem idle_give_frame (h:IdleM M) (K c0:Nat) (fst:Nat->Array Value) (cap:Nat->Array Value) (ho:opn t f s p= .ok j) (h9:t≠9) (hn:p.length<=16384) (ht:t<=255) (hf:f<=255) (hs:s<=2147483647) (h3:∀g b,wkF g b (t:Int)=some (.func (.func K) (fst b) (cap g))) (hE:Enters Tryz.prog K)
 (hw:∀(W:World) (ow:Nat->Tg) (b g:Nat) (L:Lay) (sv dv sz:Value),Env W ow->CN W ow b M L->Blk W g 26 #[.pointer (some ⟨b,0,none⟩)]->Calls Tryz.prog K (fst b++(#[.agg (infC j sv dv),sz]++cap g)) W λe w'=>e= .panicked (fltE c0 0)/\Below W.heap.size W w'):
 TakesP M t f s p (λM'=>M'=M) c0 0:=by
 intro w ow b L A c h4 hc hr h5 h1;refine takes_gen w ow b M L _ t f s K (fst b) cap A p.length c p j hc hr h5 h1 hn ht hf hs (opn_call t f s A p.length c p h1 hn ht hf hs) h.list h9 (.inl h.greeted) ho (λg=>h3 g b) hE (λe w' hq=>.inr ⟨_,hq.ret⟩) ?_;intro W g sv dv h0 h2 h6 h7 h8 hd;rw[greet_is h]at h0;exact(hw W ow b g L sv dv _ (h4.fr h2) h0 h6).mono λe w' hp=>⟨M,ow,L,rfl,hp.1,h0.below hp.2,h2.trans (Fr.below hp.2 ow)⟩
end
end Go.Proofs.YtkpppjhbmnfmkaaGreatDoor
