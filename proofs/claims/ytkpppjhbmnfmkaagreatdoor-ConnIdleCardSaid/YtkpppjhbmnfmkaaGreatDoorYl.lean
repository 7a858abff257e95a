import Derived.Test.YtkpppjhbmnfmkaaGreatDoorYk
set_option linter.unusedSimpArgs false
set_option linter.unusedVariables false
namespace Go.Proofs.YtkpppjhbmnfmkaaGreatDoor
open Go.RowKit Go.Own Go.Own.Im Go.Own.Cx Go.Own.Fr Go.Own.Hd
theorem enter_push3:Enters Tryz.prog 152:=enters_of Tryz.func152 (by kernel_rfl) rfl
theorem enter_reset4:Enters Tryz.prog 153:=enters_of Tryz.func153 (by kernel_rfl) rfl
theorem enter_ping5:Enters Tryz.prog 156:=enters_of Tryz.func156 (by kernel_rfl) rfl
theorem enter_away6:Enters Tryz.prog 157:=enters_of Tryz.func157 (by kernel_rfl) rfl
theorem enter_win7:Enters Tryz.prog 158:=enters_of Tryz.func158 (by kernel_rfl) rfl
theorem CPost.s {w w':World} {ow:Nat->Tg} {b:Nat} {M':Cv} {v:Value} {e:Ending} {S:Cv->Prop} (h:CPost w ow b M' v e w') (hs:S M'):CPostS w ow b S v e w':=⟨M',hs,h⟩
structure Fine (M M':Cv):Prop where
 dead:M'.dead=M.dead
 code:M'.code=M.code
 fed:M'.fed=M.fed
 preface:M'.preface=M.preface
 evs:∃E,M'.evs=M.evs++E/\E.length<=1/\∀e∈E,e.kind≠8
theorem Fine.refl (M:Cv):Fine M M:=⟨rfl,rfl,rfl,rfl,[],(List.append_nil _).symm,Nat.zero_le _,λ_ h=>by cases h⟩
theorem set1_fine (l:List (Nat×Nat)):∀M:Cv,(l.foldl set1 M).dead=M.dead/\(l.foldl set1 M).code=M.code/\(l.foldl set1 M).fed=M.fed/\(l.foldl set1 M).preface=M.preface:=by
 induction l with
 |nil=>exactλM=>⟨rfl,rfl,rfl,rfl⟩
 |cons x l ih=>
  intro M;obtain⟨h1,h2,h3,h4⟩:=ih (set1 M x);have e:(set1 M x).dead=M.dead/\(set1 M x).code=M.code/\(set1 M x).fed=M.fed/\(set1 M x).preface=M.preface:=by
   unfold set1
   split
   · exact⟨rfl,rfl,rfl,rfl⟩
   split
   · exact⟨rfl,rfl,rfl,rfl⟩
   split<;>exact⟨rfl,rfl,rfl,rfl⟩
  exact⟨h1.trans e.1,h2.trans e.2.1,h3.trans e.2.2.1,h4.trans e.2.2.2⟩
theorem opn_typ {t f s:Nat} {p:List UInt8} {j:Inf} (h:opn t f s p= .ok j):j.typ=t/\j.stream=s/\j.ack=((rowOf t).1&&hasF t f 1)/\j.endd=(!(rowOf t).1&&hasF t f 1)/\j.endHeads=hasF t f 4:=by
 have h1:∀(i:Inf) (q:List UInt8) (j:Inf),rd i q= .ok j->j.typ=i.typ/\j.stream=i.stream/\j.ack=i.ack/\j.endd=i.endd/\j.endHeads=i.endHeads:=by
  intro i q j h;have h0:∀(i:Inf) (q:List UInt8) (j:Inf),withDep i q= .ok j->j.typ=i.typ/\j.stream=i.stream/\j.ack=i.ack/\j.endd=i.endd/\j.endHeads=i.endHeads:=by
   intro i q j h;rw[withDep_is]at h
   split at h
   · cases h
   · injection h with h
     subst h;exact⟨rfl,rfl,rfl,rfl,rfl⟩
  unfold rd at h
  split at h
  · split at h
    · split at h
      · cases h
      · split at h
        · rename_i j2 h2
          injection h with h
          subst h;exact h0 i q j2 h2
        · cases h
    · injection h with h
      subst h;exact⟨rfl,rfl,rfl,rfl,rfl⟩
  · split at h
    · exact h0 i q j h
    · cases h
  · split at h
    · injection h with h
      subst h;exact⟨rfl,rfl,rfl,rfl,rfl⟩
    · cases h
  · split at h
    · cases h
    · split at h
      · injection h with h
        subst h;exact⟨rfl,rfl,rfl,rfl,rfl⟩
      · cases h
  · split at h
    · cases h
    · split at h
      · cases h
      · injection h with h
        subst h;exact⟨rfl,rfl,rfl,rfl,rfl⟩
  · split at h
    · injection h with h
      subst h;exact⟨rfl,rfl,rfl,rfl,rfl⟩
    · cases h
  · split at h
    · cases h
    · injection h with h
      subst h;exact⟨rfl,rfl,rfl,rfl,rfl⟩
  · split at h
    · split at h
      · cases h
      · injection h with h
        subst h;exact⟨rfl,rfl,rfl,rfl,rfl⟩
    · cases h
  · injection h with h
    subst h;exact⟨rfl,rfl,rfl,rfl,rfl⟩
 unfold opn at h
 split at h
 · cases h
 · split at h
   · split at h
     · cases h
     · split at h
       · cases h
       · exact h1 _ _ _ h
   · exact h1 _ _ _ h
section
variable {M:Cv} {t f s:Nat} {p:List UInt8} {j:Inf}
theorem idle_take_frame (h:IdleM M) (S:Cv->Prop) (K:Nat) (fst:Nat->Array Value) (cap:Nat->Array Value) (ho:opn t f s p= .ok j) (h9:t≠9) (hn:p.length<=16384) (ht:t<=255) (hf:f<=255) (hs:s<=2147483647) (h3:∀g b,wkF g b (t:Int)=some (.func (.func K) (fst b) (cap g))) (hE:Enters Tryz.prog K)
 (hw:∀(w W:World) (ow:Nat->Tg) (b g:Nat) (L:Lay) (sv dv sz:Value),(∀i,w.heap.size<=i->ow i= .no)->Fr w ow W ow->Env W ow->CN W ow b M L->Blk W g 26 #[.pointer (some ⟨b,0,none⟩)]->ow g= .no->SetO W w.heap.size sv j.sets->Ow W w.heap.size 5 dv j.data.length j.data->
   Calls Tryz.prog K (fst b++(#[.agg (infC j sv dv),sz]++cap g)) W (CPostS w ow b S (.tuple #[]))):
 TakesT M t f s p S:=by
 intro w ow b L A c h4 hc hr h5 h0;refine takes_gen w ow b M L _ t f s K (fst b) cap A p.length c p j hc hr h5 h0 hn ht hf hs (opn_call t f s A p.length c p h0 hn ht hf hs) h.list h9 (.inl h.greeted) ho (λg=>h3 g b) hE (λe w' hq=>.inl hq.ret) ?_;intro W g sv dv h1 h2 h6 h7 h8 hd;rw[greet_is h]at h1;exact hw w W ow b g L sv dv _ hc.new h2 (h4.fr h2) h1 h6 (hc.new g h7) h8 hd
theorem idle_data (h:IdleM M) (ho:opn 0 f s p= .ok j) (hn:p.length<=16384) (hf:f<=255) (hs:s<=2147483647):TakesP M 0 f s p (λM'=>M'=M) 1 0:=
 idle_give_frame h 148 1 (λb=>#[.pointer (some ⟨b,0,none⟩)]) (λ_=>#[]) ho (by decide) hn (by decide) hf hs (λ_ _=>rfl) enter_cdata λW ow b g L sv dv sz _ hc _=>data_idle W ow b M L j sv dv sz hc (h.known _)
theorem idle_reset (h:IdleM M) (ho:opn 3 f s p= .ok j) (hn:p.length<=16384) (hf:f<=255) (hs:s<=2147483647):TakesP M 3 f s p (λM'=>M'=M) 1 0:=
 idle_give_frame h 153 1 (λ_=>#[]) (λg=>#[.pointer (some ⟨g,0,none⟩)]) ho (by decide) hn (by decide) hf hs (λ_ _=>rfl) enter_reset4 λW ow b g L sv dv sz _ hc hb=>reset_idle W ow b g M L j sv dv sz hc hb (h.known _)
theorem idle_push (h:IdleM M) (ho:opn 5 f s p= .ok j) (hn:p.length<=16384) (hf:f<=255) (hs:s<=2147483647):TakesP M 5 f s p (λM'=>M'=M) 1 0:=
 idle_give_frame h 152 1 (λ_=>#[]) (λ_=>#[]) ho (by decide) hn (by decide) hf hs (λ_ _=>rfl) enter_push3 λW ow b g L sv dv sz _ hc hb=>push_give W j sv dv sz
theorem idle_win (h:IdleM M) (ho:opn 8 f s p= .ok j) (hn:p.length<=16384) (hf:f<=255) (hs:s<=2147483647) (h0:s≠0):TakesP M 8 f s p (λM'=>M'=M) 1 0:=
 idle_give_frame h 158 1 (λ_=>#[]) (λg=>#[.pointer (some ⟨g,0,none⟩)]) ho (by decide) hn (by decide) hf hs (λ_ _=>rfl) enter_win7 λW ow b g L sv dv sz _ hc hb=>win_idle W ow b g M L j sv dv sz hc hb (h.known _) (by rw[(opn_typ ho).2.1];exact h0)
theorem idle_win_over (h:IdleM M) (ho:opn 8 f 0 p= .ok j) (hn:p.length<=16384) (hf:f<=255) (h1:1<=j.inc/\j.inc<=2147483647) (h2:2147418112<j.inc):TakesP M 8 f 0 p (λM'=>M'=M) 3 0:=
 idle_give_frame h 158 3 (λ_=>#[]) (λg=>#[.pointer (some ⟨g,0,none⟩)]) ho (by decide) hn (by decide) hf (by decide) (λ_ _=>rfl) enter_win7 λW ow b g L sv dv sz hE hc hb=>win_over W ow b g M L j sv dv sz hc hb hE.hp.win hE.room (opn_typ ho).2.1 h1.1 h1.2 (by rw[h.outw];decide) (by rw[h.outw];omega)
theorem idle_win_more (h:IdleM M) (ho:opn 8 f 0 p= .ok j) (hn:p.length<=16384) (hf:f<=255) (h1:1<=j.inc/\j.inc<=2147418112):TakesT M 8 f 0 p (Fine M):=
 idle_take_frame h _ 158 (λ_=>#[]) (λg=>#[.pointer (some ⟨g,0,none⟩)]) ho (by decide) hn (by decide) hf (by decide) (λ_ _=>rfl) enter_win7 λw W ow b g L sv dv sz _ hF _ hc hb hg _ _=>
  (win_conn W ow b g M L j sv dv sz hc hb hg (opn_typ ho).2.1 h1.1 (by omega) (by rw[h.outw];omega)).mono λe w' hp=>(hp.trans hF).s ⟨rfl,rfl,rfl,rfl,[],(List.append_nil _).symm,Nat.zero_le _,λ_ h=>by cases h⟩
theorem idle_heads1 (h:IdleM M) (ho:opn 1 f s p= .ok j) (hn:p.length<=16384) (hf:f<=255) (hs:s<=2147483647) (hb:M.side=1\/s % 2=0):TakesP M 1 f s p (λM'=>M'=M) 1 0:=
 idle_give_frame h 149 1 (λ_=>#[]) (λg=>#[.pointer (some ⟨g,0,none⟩)]) ho (by decide) hn (by decide) hf hs (λ_ _=>rfl) enter_works1 λW ow b g L sv dv sz _ hc h0=>by
  by_cases h1:M.side=1
  · exact heads_unknown W ow b g M L j sv dv sz hc h0 h1 (h.known _)
  · exact heads_even W ow b g M L j sv dv sz hc h0 (h.side.resolve_left h1) (by rw[(opn_typ ho).2.1];exact hb.resolve_left h1)
theorem idle_twice (h:IdleM M) (ho:opn 4 f s p= .ok j) (hn:p.length<=16384) (hf:f<=255) (hs:s<=2147483647) (ha:j.ack=true) (hk:M.acked=true):TakesP M 4 f s p (λM'=>M'=M) 1 0:=
 idle_give_frame h 155 1 (λb=>#[.pointer (some ⟨b,0,none⟩)]) (λ_=>#[]) ho (by decide) hn (by decide) hf hs (λ_ _=>rfl) enter_settings λW ow b g L sv dv sz _ hc _=>settings_twice W ow b M L j sv dv sz hc ha hk
theorem idle_ack (h:IdleM M) (ho:opn 4 f s p= .ok j) (hn:p.length<=16384) (hf:f<=255) (hs:s<=2147483647) (ha:j.ack=true) (hk:M.acked=false):TakesT M 4 f s p (λM'=>M'={M with acked:=true,window:=M.cw}):=
 idle_take_frame h _ 155 (λb=>#[.pointer (some ⟨b,0,none⟩)]) (λ_=>#[]) ho (by decide) hn (by decide) hf hs (λ_ _=>rfl) enter_settings λw W ow b g L sv dv sz _ hF _ hc hb hg _ _=>
  (settings_ack W ow b M L j sv dv sz hc ha hk h.strs).mono λe w' hp=>⟨_,rfl,hp.trans hF⟩
theorem idle_set (h:IdleM M) (ho:opn 4 f s p= .ok j) (hn:p.length<=16384) (hf:f<=255) (hs:s<=2147483647) (ha:j.ack=false) (hv:∀x∈j.sets,x.1<=65535/\x.2<=4294967295) (hl:j.sets.length<=100000):TakesT M 4 f s p (Fine M):=
 idle_take_frame h _ 155 (λb=>#[.pointer (some ⟨b,0,none⟩)]) (λ_=>#[]) ho (by decide) hn (by decide) hf hs (λ_ _=>rfl) enter_settings λw W ow b g L sv dv sz h5 hF _ hc hb hg h0 _=>by
  obtain⟨A,c,rfl,_,_⟩:=h0.form;refine(settings_any W ow b M L j A c dv sz hc ha (SetR.of_own h0) (λad e=>h5 _ (h0.lt _ (by rw[e];rfl)).1) hv hl h.strs (by have:=h.out;omega) (by have:=h.evs;omega)).mono λe w' hp=>⟨_,?_,hp.trans hF⟩;obtain⟨h1,h2,h3,h4⟩:=set1_fine j.sets M;exact⟨h1,h2,h3,h4,_,rfl,Nat.le_refl _,λe he=>by rw[List.mem_singleton.1 he];simp⟩
theorem idle_ping (h:IdleM M) (ho:opn 6 f s p= .ok j) (hj:j={typ:=6,stream:=s,ack:=j.ack,data:=p}) (h8:p.length=8) (hf:f<=255) (hs:s<=2147483647):TakesT M 6 f s p (Fine M):=
 idle_take_frame h _ 156 (λ_=>#[]) (λg=>#[.pointer (some ⟨g,0,none⟩)]) ho (by decide) (by omega) (by decide) hf hs (λ_ _=>rfl) enter_ping5 λw W ow b g L sv dv sz h2 hF _ hc hb hg _ hd=>by
  have h4:j.data=p:=by rw[hj]
  rw[h4]at hd;obtain⟨A,c,rfl,h3,_,h0⟩:=hd.form;rw[h8]at h0 h3 hd;cases ha:j.ack
  · rw[ha]at hj
    rw[hj,h8];exact(ping_no W ow b g M L s p sv A c sz hc hb h0 (by have:=h.out;omega)).mono λe w' hp=>(hp.trans hF).s ⟨rfl,rfl,rfl,rfl,[],(List.append_nil _).symm,Nat.zero_le _,λ_ h=>by cases h⟩
  · rw[ha]at hj
    rw[hj,h8];refine(ping_yes w W ow ow b g M L s p sv A c sz hF hc hb h0 h3 (λad e=>?_) (by have:=h.evs;omega)).mono λe w' hp=>?_
    · have h1:=hd.lt (g:=ad.block) (by rw[e];rfl)
      exact⟨h2 _ h1.2,h1.2⟩
    · obtain⟨M',⟨A',c',rfl⟩,hp⟩:=hp
      exact CPost.s hp ⟨rfl,rfl,rfl,rfl,_,rfl,Nat.le_refl _,λe he=>by rw[List.mem_singleton.1 he];simp⟩
theorem idle_away (h:IdleM M) (ho:opn 7 f s p= .ok j) (hn:p.length<=16384) (hf:f<=255) (hs:s<=2147483647):TakesT M 7 f s p (Fine M):=
 idle_take_frame h _ 157 (λ_=>#[]) (λg=>#[.pointer (some ⟨g,0,none⟩)]) ho (by decide) hn (by decide) hf hs (λ_ _=>rfl) enter_away6 λw W ow b g L sv dv sz _ hF _ hc hb hg _ _=>
  (away_none W ow b g M L j sv dv sz hc hb hg h.strs (by have:=h.evs;omega)).mono λe w' hp=>(hp.trans hF).s ⟨rfl,rfl,rfl,rfl,_,rfl,Nat.le_refl _,λe he=>by rw[List.mem_singleton.1 he];simp⟩
theorem idle_heads2 (h:IdleM M) (h1:M.side=2) (hodd:s % 2=1) (ho:opn 1 f s p= .ok j) (hE:j.data.length<=16384) (hn:p.length<=16384) (hf:f<=255) (hs:s<=2147483647):
 TakesT M 1 f s p (λM'=>M'.dead=M.dead/\M'.fed=M.fed/\M'.preface=M.preface)\/TakesP M 1 f s p (λM'=>∃t9,M'={M with hp:=M.hp.lost t9}) 9 0:=by
 have hO:({M with list:=none}:Cv)=M:=by
  have:=h.list;cases M;simp only at this;subst this
  rfl
 have hL:s≠0:=by omega
 have hH:strAt M (s:Int)=none:=by unfold strAt;rw[h.strs];rfl
 obtain⟨_,h5,_,_,_⟩:=opn_typ ho;cases he:j.endHeads
 · refine .inl ?_
   intro w ow b L A c hw hc hr hh h6;refine takes_gen w ow b M L _ 1 f s 149 #[] (λg=>#[.pointer (some ⟨g,0,none⟩)]) A p.length c p j hc hr hh h6 hn (by decide) hf hs (opn_call 1 f s A p.length c p h6 hn (by decide) hf hs) h.list (by decide) (.inl h.greeted) ho (λg=>rfl) enter_works1 (λe w' hq=>.inl hq.ret) ?_;intro W g sv dv h7 h9 hi hj hI hd;rw[greet_is h]at h7;obtain⟨A6,c6,rfl,h4,_,h3⟩:=hd.form;refine(works1_any W ow b g M _ L j sv _ _ h7 hi (hc.new g hj) h1 (by rw[h5];exact hodd) ?_).mono λe w' hp=>hp.trans h9;intro W2 ow2 L2 hk h2;have h0:=tag_no hc hd;refine(piece_more W2 ow2 b {M with list:=some (j.stream,j.endd,[])} L2 j.stream j.endd [] j.data j sv A6 j.data.length c6 hk rfl he ((h2.rd h3 (Nat.le_refl _) h0).more h2.size) (by simpa using hE)).mono λe w' hp=>?_;obtain⟨_,rfl,hp⟩:=hp;exact CPost.s hp ⟨rfl,rfl,rfl⟩
 · cases hl:Hk.decP M.hp.dt ([]++j.data)with
   |none=>
    refine .inr ?_;intro w ow b L A c hw hc hr hh h6;refine takes_gen w ow b M L _ 1 f s 149 #[] (λg=>#[.pointer (some ⟨g,0,none⟩)]) A p.length c p j hc hr hh h6 hn (by decide) hf hs (opn_call 1 f s A p.length c p h6 hn (by decide) hf hs) h.list (by decide) (.inl h.greeted) ho (λg=>rfl) enter_works1 (λe w' hq=>.inr ⟨_,hq.ret⟩) ?_;intro W g sv dv h7 h9 hi hj hI hd;rw[greet_is h]at h7;obtain⟨A6,c6,rfl,h4,_,h3⟩:=hd.form;refine works1_q W ow b g M _ L j sv _ _ h7 hi (hc.new g hj) h1 (by rw[h5];exact hodd) ?_ λe w' hq=>.inr ⟨_,hq.ret⟩;intro W2 ow2 L2 hk h2;have h0:=tag_no hc hd;have hA:Env W2 ow2:=(hw.fr h9).fr h2;refine(piece_bad W2 ow2 b {M with list:=some (j.stream,j.endd,[])} (λM'=>∃t9,M'={M with hp:=M.hp.lost t9}) L2 j.stream j.endd [] j.data j sv A6 j.data.length c6 hk hA.d h.dgone rfl he ((h2.rd h3 (Nat.le_refl _) h0).more h2.size) h4 (by simpa using hE) hl (λt9=>⟨t9,?_⟩)).mono λe w' hp=>hp.trans (h9.trans h2);have:=h.list;cases M;simp only at this;subst this
    rfl
   |some r=>
    obtain⟨hb,t'⟩:=r;refine .inl ?_;intro w ow b L A c hw hc hr hh h6;refine takes_gen w ow b M L _ 1 f s 149 #[] (λg=>#[.pointer (some ⟨g,0,none⟩)]) A p.length c p j hc hr hh h6 hn (by decide) hf hs (opn_call 1 f s A p.length c p h6 hn (by decide) hf hs) h.list (by decide) (.inl h.greeted) ho (λg=>rfl) enter_works1 (λe w' hq=>.inl hq.ret) ?_;intro W g sv dv h7 h9 hi hj hI hd;rw[greet_is h]at h7;obtain⟨A6,c6,rfl,h4,_,h3⟩:=hd.form;refine(works1_any W ow b g M _ L j sv _ _ h7 hi (hc.new g hj) h1 (by rw[h5];exact hodd) ?_).mono λe w' hp=>hp.trans h9;intro W2 ow2 L2 hk h2;have h0:=tag_no hc hd;have hA:Env W2 ow2:=(hw.fr h9).fr h2;refine piece_good W2 ow2 b {M with list:=some (j.stream,j.endd,[])} _ L2 j.stream j.endd [] j.data j sv A6 j.data.length c6 hb t' hk hA.d h.dgone rfl he ((h2.rd h3 (Nat.le_refl _) h0).more h2.size) h4 (by simpa using hE) hl h1 (h.known _) (by rw[h5];exact hH) (by rw[h5];exact hs) ?_;intro W3 ow3 L3 A3 c3 hJ hN hF hC hm h8;have hK:Env W3 ow3:=hA.fr hN;have ht:(M.strs.length:Int)<M.cs:=by rw[h.strs];exact h.cs
    cases hD:openS rules4 hb req0 with
    |none=>
     refine(opened_bad W3 ow3 b _ L3 j.stream A3 c3 hb j.endd hJ ⟨by rw[h5];exact hL,by rw[h5];exact hs⟩ ht h.bye (by have:=h.out;show M.out.length<=_;omega) hm h8 λW' hf hr=>?_).mono λ_ _ hp=>hp.s ⟨rfl,rfl,rfl⟩;obtain⟨e1,e2,e3,hG⟩:=(hK.fr hf).env;exact headBad_of hG (len_of hC) hF (hr.more hf.size) (szs_of hC) hD
    |some r=>
     have hu:0<hb.length:=by
      rcases hb with _|⟨x,q⟩
      · exfalso
        have e:openS rules4 [] req0=none:=by decide
        rw[e]at hD;cases hD
      · simp
     refine(opened_ok W3 ow3 b _ L3 j.stream A3 c3 hb j.endd hJ (by rw[h5];exact hs) (λx hx=>by have hx:x∈M.strs:=hx;rw[h.strs]at hx;cases hx) ht h.bye h.window h.others (by show M.strs.length<=_;rw[h.strs];decide) (by show(M.strs.map (·.id)).Nodup;rw[h.strs];exact List.nodup_nil) hF hm hu (h8 hu) (by have:=h.evs;show M.evs.length<=_;omega) λW' hf hr=>?_).mono λ_ _ hp=>hp.s ⟨rfl,rfl,rfl⟩;obtain⟨e1,e2,e3,hG⟩:=(hK.fr hf).env;exact headOk_of' hG (len_of hC) hF (hr.more hf.size) (szs_of hC) (by rw[hD];rfl)
end
end Go.Proofs.YtkpppjhbmnfmkaaGreatDoor
