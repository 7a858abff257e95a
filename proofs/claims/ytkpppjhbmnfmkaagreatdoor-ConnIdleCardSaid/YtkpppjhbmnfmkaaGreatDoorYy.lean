import Derived.Test.YtkpppjhbmnfmkaaGreatDoorYx
import Derived.Test.YtkpppjhbmnfmkaaGreatDoorJar
import Derived.Test.YtkpppjhbmnfmkaaGreatDoorJat
set_option linter.unusedSimpArgs false
set_option linter.unusedVariables false
namespace Go.Proofs.YtkpppjhbmnfmkaaGreatDoor
open Go.RowKit Go.Own Go.Own.Im Go.Own.Cx Go.Own.Fr Go.Own.Hd
theorem Runs.mono {n:Nat} {M:Cv} {S S2:Cv->Prop} (h:Runs n M S):(∀M',S M'->S2 M')->Runs n M S2:=by
 induction h with
 |dead h1 h2=>exactλhs=>.dead h1 (hs _ h2)
 |stop h1 h2=>exactλhs=>.stop h1 (h2.mono hs)
 |more h1 h2 h3 ih=>exactλhs=>.more h1 h2 (λM1 hm=>ih M1 hm hs)
theorem TakesT.mono {M:Cv} {t f s:Nat} {p:List UInt8} {S S2:Cv->Prop} (h:TakesT M t f s p S) (hs:∀M',S M'->S2 M'):TakesT M t f s p S2:=λw ow b L A c h1 h2 h3 h4 h5=>
 (h w ow b L A c h1 h2 h3 h4 h5).mono λe w' ⟨M',h,k⟩=>⟨M',hs _ h,k⟩
def IdleQ (v:Int) (M M':Cv):Prop:=(v= -2/\True)\/(v= -1/\Fine M M')\/∃c:Nat,v=(c:Nat)/\c<=6/\M'=deadM M c
theorem long_len {t f s:Nat} {p:List UInt8} (h:16384<p.length) (hp:p.length<=20000):16384<ofB 0 ((frameB t f s p).take 3):=by
 have e:(frameB t f s p).take 3=be p.length 3:=by
  unfold frameB;rw[List.take_append_of_le_length (by rw[be_len];exact Nat.le_refl _)];exact List.take_of_length_le (by rw[be_len];exact Nat.le_refl _)
 rw[e,ofB_be];show 16384<0*16777216+p.length % 16777216;omega
section
variable {M:Cv} {t f s:Nat} {p:List UInt8}
theorem IdleM.dies (h:IdleM M) (c s9:Nat) (hc:c<=6) (hs:s9<=2147483647):FaultT M c s9 (λM'=>M'=deadM M c):=by
 by_cases h0:s9=0
 · subst h0
   exact fault_dead M c (by omega) (by rw[h.last];omega) (by have:=h.out;omega) (by have:=h.evs;omega)
 · exact fault_strm M c s9 (by omega) (by rw[h.last];omega) (by have:=h.out;omega) (by have:=h.evs;omega) hs h.strs (h.known s9)
theorem runs_refused (M0:Cv) (h:IdleM M) (h0:M0.preface=24) (hd:M0.dead=false) (hl:M0.fed=frameB t f s p) (hM:{M0 with fed:=[]}=M) (ht:t<=255) (hf:f<=255) (hs:s<=2147483647) (hp:p.length<=16384) (c s9:Nat) (hc:c<=6) (h2:s9<=2147483647) (hT:TakesP M t f s p (λM'=>M'=M) c s9):
 Runs 1 M0 (λM'=>M'=deadM M c):=by
 refine .more hd (step_panics M0 (λM'=>M'=M) (λM'=>M'=deadM M c) t f s c s9 p [] h0 (by rw[hl,List.append_nil]) ht hf hs hp (by rw[hM];exact hT) (λM1 h1=>?_)) λM1 h1=>?_
 · subst h1
   exact h.dies c s9 hc h2
 · subst h1
   exact .dead rfl rfl
theorem runs_taken (M0:Cv) (hp24:M0.preface=24) (hd:M0.dead=false) (hl:M0.fed=frameB t f s p) (hM:{M0 with fed:=[]}=M) (ht:t<=255) (hf:f<=255) (hs:s<=2147483647) (hp:p.length<=16384) (S:Cv->Prop) (hS:∀M',S M'->M'.dead=M.dead/\M'.fed=M.fed/\M'.preface=M.preface) (hT:TakesT M t f s p S):
 Runs 1 M0 S:=by
 subst hM;refine .more hd (step_takes M0 S t f s p [] hp24 (by rw[hl,List.append_nil]) ht hf hs hp hT) λM1 h1=>?_;obtain⟨h2,h3,h4⟩:=hS M1 h1;exact .stop (h2.trans hd) ((step_few M1 (h4.trans hp24) (by rw[h3];show 0<9;omega)).mono λM' h'=>h'▸h1)
theorem fine_same {M M':Cv} (h:Fine M M'):M'.dead=M.dead/\M'.fed=M.fed/\M'.preface=M.preface:=⟨h.dead,h.fed,h.preface⟩
theorem runs_idle (M0:Cv) (h:IdleM M) (h7:M0.preface=24) (hd:M0.dead=false) (hl:M0.fed=frameB t f s p) (hM:{M0 with fed:=[]}=M) (ht:t<=255) (hf:f<=255) (hs:s<=2147483647) (hp:p.length<=20000):
 Runs 1 M0 (IdleQ (idleC M.side t f s p M.acked) M):=by
 have h5:∀(c s9:Nat),c<=6->s9<=2147483647->p.length<=16384->idleC M.side t f s p M.acked=(c:Nat)->TakesP M t f s p (λM'=>M'=M) c s9->Runs 1 M0 (IdleQ (idleC M.side t f s p M.acked) M):=λc s9 hc he hn hi hT=>
  (runs_refused M0 h h7 hd hl hM ht hf hs hn c s9 hc he hT).mono λM' h'=>.inr (.inr ⟨c,hi,hc,h'⟩)
 have h4:p.length<=16384->idleC M.side t f s p M.acked= -1->TakesT M t f s p (Fine M)->Runs 1 M0 (IdleQ (idleC M.side t f s p M.acked) M):=λhn hi hT=>
  (runs_taken M0 h7 hd hl hM ht hf hs hn (Fine M) (λ_ h=>fine_same h) hT).mono λM' h'=>.inr (.inl ⟨hi,h'⟩)
 by_cases h6:16384<p.length
 · have hi:idleC M.side t f s p M.acked=(6:Nat):=by unfold idleC;rw[if_pos h6];rfl
   have hh:deadM M0 6=deadM M 6:=by subst hM;rfl
   refine .more hd (step_long M0 (λM'=>M'=deadM M 6) h7 (by rw[hl,frameB_len];omega) (by rw[hl];exact long_len h6 hp) ?_) λM1 h1=>?_
   · rw[<-hh]
     subst hM;exact fault_dead M0 6 (by decide) (by have:=h.last;simp only at this;rw[this];omega) (by have:=h.out;simp only at this;omega) (by have:=h.evs;simp only at this;omega)
   · subst h1
     exact .dead rfl (.inr (.inr ⟨6,hi,Nat.le_refl _,rfl⟩))
 have hn:p.length<=16384:=by omega
 by_cases h9:t=9
 · subst h9
   exact h5 1 0 (by decide) (by decide) hn (by unfold idleC;rw[if_neg h6,if_pos rfl];rfl) (takes_cont M f s p h.greeted h.list hf)
 have hi:idleC M.side t f s p M.acked=(match opn t f s p with
  | .error x=>((x.1:Nat):Int)
  | .ok j=>if t=0\/t=3\/t=5 then 1 else if t=8 then(if s≠0 then 1 else if 2147418112<j.inc then 3 else -1)
    else if t=4 then(if(j.ack&&M.acked)=true then 1 else -1)else if t=1 then(if M.side=1\/s % 2=0 then 1 else -2)else -1):=by unfold idleC;rw[if_neg h6,if_neg h9];rfl
 cases ho:opn t f s p with
 |error x=>
  obtain⟨h1,h2⟩:=opn_err ho;rw[ho]at hi;exact h5 x.1 x.2 h1 (by omega) hn hi (idle_bad_frame h x ho h9 hn ht hf hs)
 |ok j=>
  rw[ho]at hi;simp only at hi;rcases ten t with rfl|rfl|rfl|rfl|rfl|rfl|rfl|rfl|rfl|rfl|hj
  · exact h5 1 0 (by decide) (by decide) hn (by rw[hi];rfl) (idle_data h ho hn hf hs)
  · by_cases hb:M.side=1\/s % 2=0
    · exact h5 1 0 (by decide) (by decide) hn (by rw[hi];simp[hb]) (idle_heads1 h ho hn hf hs hb)
    · have h2:M.side=2:=by have:=h.side;omega
      have h8:idleC M.side 1 f s p M.acked= -2:=by rw[hi];simp[hb]
      rcases idle_heads2 h h2 (by omega) ho (Nat.le_trans (opn_len ho) hn) hn hf hs with hT|hT
      · exact(runs_taken M0 h7 hd hl hM ht hf hs hn _ (λ_ h=>h) hT).mono λM' h'=>.inl ⟨h8,trivial⟩
      · subst hM
        refine .more hd (step_panics M0 _ (λM'=>M'.dead=true) 1 f s 9 0 p [] h7 (by rw[hl,List.append_nil]) ht hf hs hn hT (λM1 h1=>?_)) λM1 h1=>.dead h1 (.inl ⟨h8,trivial⟩);obtain⟨t9,rfl⟩:=h1;intro w ow b L hc;exact(fault_dead _ 9 (by decide) (by have:=h.last;simp only at this ⊢;rw[this];omega) (by have:=h.out;simp only at this ⊢;omega) (by have:=h.evs;simp only at this ⊢;omega) w ow b L hc).mono λe w' ⟨M',h,k⟩=>⟨M',h▸rfl,k⟩
  · exact h4 hn (by rw[hi];rfl) ((idle_none_frame h ho (λ_ _=>rfl) h9 hn ht hf hs).mono λM' h'=>h'▸Fine.refl M)
  · exact h5 1 0 (by decide) (by decide) hn (by rw[hi];rfl) (idle_reset h ho hn hf hs)
  · cases ha:j.ack
    · obtain⟨h1,h2⟩:=opn_sets ho
      exact h4 hn (by rw[hi,ha];rfl) (idle_set h ho hn hf hs ha h1 (by omega))
    · cases hk:M.acked
      · have h8:idleC M.side 4 f s p M.acked= -1:=by rw[hi,ha,hk];rfl
        rw[<-hk];refine h4 hn h8 ((idle_ack h ho hn hf hs ha hk).mono λM' h'=>?_);subst h';exact⟨rfl,rfl,rfl,rfl,[],(List.append_nil _).symm,Nat.zero_le _,λ_ h=>by cases h⟩
      · have h8:idleC M.side 4 f s p M.acked=(1:Nat):=by rw[hi,ha,hk];rfl
        rw[<-hk];exact h5 1 0 (by decide) (by decide) hn h8 (idle_twice h ho hn hf hs ha hk)
  · exact h5 1 0 (by decide) (by decide) hn (by rw[hi];rfl) (idle_push h ho hn hf hs)
  · obtain⟨h1,h2⟩:=opn_ping ho
    exact h4 hn (by rw[hi];rfl) (idle_ping h ho h1 h2 hf hs)
  · exact h4 hn (by rw[hi];rfl) (idle_away h ho hn hf hs)
  · obtain⟨h1,h2⟩:=opn_inc ho
    by_cases h0:s=0
    · subst h0
      by_cases h3:2147418112<j.inc
      · exact h5 3 0 (by decide) (by decide) hn (by rw[hi];simp[h3]) (idle_win_over h ho hn hf ⟨h1,h2⟩ h3)
      · exact h4 hn (by rw[hi];simp[h3]) (idle_win_more h ho hn hf ⟨h1,by omega⟩)
    · exact h5 1 0 (by decide) (by decide) hn (by rw[hi];simp[h0]) (idle_win h ho hn hf hs h0)
  · exact absurd rfl h9
  · refine h4 hn (by rw[hi,if_neg (by omega),if_neg (by omega),if_neg (by omega),if_neg (by omega)]) ((idle_none_frame h ho (λ_ _=>?_) h9 hn ht hf hs).mono λM' h'=>h'▸Fine.refl M)
    unfold wkF;rw[if_neg (by omega),if_neg (by omega),if_neg (by omega),if_neg (by omega),if_neg (by omega),if_neg (by omega),if_neg (by omega),if_neg (by omega),if_neg (by omega)]
end
end Go.Proofs.YtkpppjhbmnfmkaaGreatDoor
