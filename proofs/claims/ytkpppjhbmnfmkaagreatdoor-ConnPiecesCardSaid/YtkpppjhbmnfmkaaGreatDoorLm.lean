import Derived.Test.YtkpppjhbmnfmkaaGreatDoorJbd
import Derived.Test.YtkpppjhbmnfmkaaGreatDoorJan
set_option linter.unusedSimpArgs false
set_option linter.unusedVariables false
set_option maxHeartbeats 4000000
set_option maxRecDepth 100000
namespace Go.Proofs.YtkpppjhbmnfmkaaGreatDoor
open Lib (hid)
open Go.RowKit Go.Own Go.Own.Im Go.Own.Cx Go.Own.Fr
attribute [local go_sem] Oper.semAt_some
theorem lists_shut (w:World) (ow:Nat->Tg) (b:Nat) (M:Cv) (L:Lay) (s:Sv) (lv:Value) (fin:Bool) (h:CN w ow b M L) (hs:s∈M.strs) (ho:s.other=3):
 Calls Tryz.prog 195 #[.pointer (some ⟨b,0,none⟩),.pointer (some ⟨(L.s s.id).sb,0,none⟩),lv,.bool fin] w λe w'=>e= .panicked (fltE 5 s.id)/\w'=w:=by
 have hS:=h.p.strs s hs;have d2:w.cell? ⟨(L.s s.id).sb,2,none⟩=some (.int .i64 (s.other:Nat)):=hS.blk.cell 2;rw[ho]at d2;have d0:w.cell? ⟨(L.s s.id).sb,0,none⟩=some (.int .i64 (s.id:Nat)):=hS.blk.cell 0;clear h hs ho hS;go_enter Tryz.func195,Tryz.ntmps195;go_wp2_with fail;refine(give_any 5 s.id w).mono ?_;rintro e w1 ⟨rfl,hw⟩;subst w1;go_wp2;exact⟨rfl,rfl,rfl⟩
theorem lists_open (w:World) (ow:Nat->Tg) (b:Nat) (M:Cv) (L:Lay) (s:Sv) (lv:Value) (h:CN w ow b M L) (hs:s∈M.strs) (ho:s.other=1):
 Calls Tryz.prog 195 #[.pointer (some ⟨b,0,none⟩),.pointer (some ⟨(L.s s.id).sb,0,none⟩),lv,.bool false] w λe w'=>e= .panicked (fltE 1 s.id)/\w'=w:=by
 have hS:=h.p.strs s hs;have d2:w.cell? ⟨(L.s s.id).sb,2,none⟩=some (.int .i64 (s.other:Nat)):=hS.blk.cell 2;rw[ho]at d2;have d0:w.cell? ⟨(L.s s.id).sb,0,none⟩=some (.int .i64 (s.id:Nat)):=hS.blk.cell 0;clear h hs ho hS;go_enter Tryz.func195,Tryz.ntmps195;go_wp2_with fail;refine(give_any 1 s.id w).mono ?_;rintro e w1 ⟨rfl,hw⟩;subst w1;go_wp2;exact⟨rfl,rfl,rfl⟩
theorem lists_junk (w:World) (ow:Nat->Tg) (b:Nat) (M:Cv) (L:Lay) (s:Sv) (A:Option Addr) (n c:Nat) (l:List Hd.HdrV) (h:CN w ow b M L) (hE:Env w ow) (hs:s∈M.strs) (ho:s.other=1) (hn:n<=1000000) (hr:H6.Hr w A n l) (hz:H6.Szs l) (hp:l.all Hd.plainB=false):
 Calls Tryz.prog 195 #[.pointer (some ⟨b,0,none⟩),.pointer (some ⟨(L.s s.id).sb,0,none⟩),.slice A n c,.bool true] w λe w'=>e= .panicked (fltE 1 s.id)/\Below w.heap.size w w':=by
 have hS:=h.p.strs s hs;have d2:w.cell? ⟨(L.s s.id).sb,2,none⟩=some (.int .i64 (s.other:Nat)):=hS.blk.cell 2;rw[ho]at d2;obtain⟨e1,e2,e3,he⟩:=hE.env;have ht:=H6.trailers_any A n c l w he (by omega) hr hz;rw[hp]at ht;have HT:=hid ht;have HC:=hid h;have HM:=hid hs;clear h ho hS ht he hE hr hz hp hn hs;go_enter Tryz.func195,Tryz.ntmps195;go_wp2_with fail;refine HT.out.mono ?_;rintro e w1 ⟨rfl,hb⟩;have HB:=hid hb;have d0:w1.cell? ⟨(L.s s.id).sb,0,none⟩=some (.int .i64 (s.id:Nat)):=((HC.out.below hb).p.strs s HM.out).blk.cell 0;clear hb;simp only[H6.errH,cond_false];go_wp2_with fail;refine(give_any 1 s.id w1).mono ?_;rintro e w2 ⟨rfl,hw⟩;subst w2;go_wp2;exact⟨rfl,rfl,HB.out⟩
theorem lists_trail (w:World) (ow:Nat->Tg) (b:Nat) (M:Cv) (L:Lay) (s:Sv) (A:Option Addr) (c:Nat) (l:List Hd.HdrV) (h:CN w ow b M L) (hE:Env w ow) (hs:s∈M.strs) (ho:s.other=1) (h0:s.own≠3) (hu:(M.strs.map (·.id)).Nodup) (hn:l.length<=1000000) (hl:l.length<=c) (h5:Cm.RS hdrC 3 w w.heap.size A l.length l) (h2:0<l.length->∀ad,A=some ad->ow ad.block= .evd) (hz:H6.Szs l) (hp:l.all Hd.plainB=true) (h8:M.evs.length<=900000):
 Calls Tryz.prog 195 #[.pointer (some ⟨b,0,none⟩),.pointer (some ⟨(L.s s.id).sb,0,none⟩),.slice A l.length c,.bool true] w (CPost w ow b {M with evs:=M.evs++[{kind:=3,stream:=s.id,la:=A,lc:=c,l:=l}],strs:=updS M.strs {s with other:=3}} (.tuple #[])):=by
 have hS:=h.p.strs s hs;have d2:w.cell? ⟨(L.s s.id).sb,2,none⟩=some (.int .i64 (s.other:Nat)):=hS.blk.cell 2;rw[ho]at d2;obtain⟨e1,e2,e3,he⟩:=hE.env;have h1:H6.Hr w A l.length l:=⟨rfl,λj u hu=>by
  rw[hcells_flat]at hu;exact h5.flatc (λ_=>rfl) j u hu⟩
 have ht:=H6.trailers_any A l.length c l w he (by omega) h1 hz;rw[hp]at ht;have HT:=hid ht;have HC:=hid h;have HM:=hid hs;have HR:=hid h5;have HG:=hid h2;have HH:=hid (show _/\_/\_/\_ from⟨hl,h0,hu,h8⟩);clear h ho hS ht he hE hz hp hn hs h5 h2 hl h0 hu h8 h1;generalize h9:l.length=nh at*
 have h3:=hid h9;clear h9;go_enter Tryz.func195,Tryz.ntmps195;go_wp2_with fail;refine HT.out.mono ?_;rintro e w1 ⟨rfl,hb⟩;have HB:=hid hb;have hc:=hid (HC.out.below hb);have d0:w1.cell? ⟨(L.s s.id).sb,0,none⟩=some (.int .i64 (s.id:Nat)):=(hc.out.p.strs s HM.out).blk.cell 0;have hE:EvOk w1 ow {kind:=3,stream:=s.id,la:=A,lc:=c,l:=l}:=
  ⟨⟨by show l.length<=c;rw[h3.out];exact HH.out.1,by
     show Cm.RS hdrC 3 _ _ A l.length l;rw[h3.out];exact(HR.out.below hb).more hb.size,λh7 ad h1=>HG.out (by rw[<-h3.out];exact h7) ad h1⟩,⟨Nat.le_refl _,rd_nil0 _ _,λh=>absurd h (Nat.lt_irrefl _)⟩⟩
 have h6:=tell_anyL w1 ow b M L {kind:=3,stream:=s.id,la:=A,lc:=c,l:=l} hc.out hE HH.out.2.2.2;have hd:evC {kind:=3,stream:=s.id,la:=A,lc:=c,l:=l}= #[.int .i64 3,.int .i64 (s.id:Nat),.int .i64 0,.int .i64 0,.bool false,.slice A nh c,.slice none 0 0]:=by simp only[evC,h3.out];rfl
 rw[hd]at h6;have hj:=hid h6;clear hb hE h6 hd;simp only[H6.errH,cond_true];go_wp2_with (first
  |(go_at_call 109
    refine hj.out.mono ?_;rintro e w6 ⟨ow6,L6,rfl,hf,hh,hi⟩;have h4:=ends_any w6 ow6 b _ L6 s true hf HM.out HH.out.2.1 HH.out.2.2.1;rw[show(L6.s s.id).sb=(L.s s.id).sb by rw[hi]]at h4;have h4:=hid h4;have hk:=hid hh;clear hf hh hi)
  |(go_at_call 193
    refine h4.out.mono ?_;intro e w7 hp;obtain rfl:=hp.ret;have hm:=hid hp;clear hp)
  |fail)
 go_end0;exact(hm.out.trans hk.out).trans (Fr.below HB.out ow)
end Go.Proofs.YtkpppjhbmnfmkaaGreatDoor
