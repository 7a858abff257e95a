/-
  
  
-/
import Derived.KernelRfl
import Derived.Scope
import Derived.Tactics
set_option linter.unusedSimpArgs false
set_option linter.unusedVariables false
section
namespace Go.Own.Hf
def szL:List Nat:=[13,23,28,28,28,28,28,28,28,24,30,28,28,30,28,28,28,28,28,28,28,28,30,28,28,28,28,28,28,28,28,28,6,10,10,12,13,6,8,11,10,10,8,11,8,6,6,6,5,5,5,6,6,6,6,6,6,6,7,8,15,6,12,10,13,6,7,7,7,7,7,7,7,7,7,7,7,7,7,7,7,7,7,7,7,7,7,7,8,7,8,13,19,13,14,6,15,5,6,5,6,5,6,6,6,5,7,7,6,6,6,5,6,7,6,5,5,6,7,7,7,7,7,15,11,14,13,28,20,22,20,20,22,22,22,23,22,23,23,23,23,23,24,23,24,24,22,23,24,23,23,23,23,21,22,23,22,23,23,24,22,21,20,22,22,23,23,21,23,22,22,24,21,22,23,23,21,21,22,21,23,22,23,23,20,22,22,22,23,22,22,23,26,26,20,19,22,23,22,25,26,26,26,27,27,26,24,25,19,21,26,27,27,26,27,24,21,21,26,26,28,27,27,27,20,24,20,21,22,21,21,23,22,22,25,25,24,24,26,23,26,27,26,26,27,27,27,27,27,28,27,27,27,27,27,26,30]
def cdL:List Nat:=[8184,8388568,268435426,268435427,268435428,268435429,268435430,268435431,268435432,16777194,1073741820,268435433,268435434,1073741821,268435435,268435436,268435437,268435438,268435439,268435440,268435441,268435442,1073741822,268435443,268435444,268435445,268435446,268435447,268435448,268435449,268435450,268435451,20,1016,1017,4090,8185,21,248,2042,1018,1019,249,2043,250,22,23,24,0,1,2,25,26,27,28,29,30,31,92,251,32764,32,4091,1020,8186,33,93,94,95,96,97,98,99,100,101,102,103,104,105,106,107,108,109,110,111,112,113,114,252,115,253,8187,524272,8188,16380,34,32765,3,35,4,36,5,37,38,39,6,116,117,40,41,42,7,43,118,44,8,9,45,119,120,121,122,123,32766,2044,16381,8189,268435452,1048550,4194258,1048551,1048552,4194259,4194260,4194261,8388569,4194262,8388570,8388571,8388572,8388573,8388574,16777195,8388575,16777196,16777197,4194263,8388576,16777198,8388577,8388578,8388579,8388580,2097116,4194264,8388581,4194265,8388582,8388583,16777199,4194266,2097117,1048553,4194267,4194268,8388584,8388585,2097118,8388586,4194269,4194270,16777200,2097119,4194271,8388587,8388588,2097120,2097121,4194272,2097122,8388589,4194273,8388590,8388591,1048554,4194274,4194275,4194276,8388592,4194277,4194278,8388593,67108832,67108833,1048555,524273,4194279,8388594,4194280,33554412,67108834,67108835,67108836,134217694,134217695,67108837,16777201,33554413,524274,2097123,67108838,134217696,134217697,67108839,134217698,16777202,2097124,2097125,67108840,67108841,268435453,134217699,134217700,134217701,1048556,16777203,1048557,2097126,4194281,2097127,2097128,8388595,4194282,4194283,33554414,33554415,16777204,16777205,67108842,8388596,67108843,134217702,67108844,67108845,134217703,134217704,134217705,134217706,134217707,268435454,134217708,134217709,134217710,134217711,134217712,67108846,1073741823]
def sz (s:Nat):Nat:=szL.getD s 0
def cd (s:Nat):Nat:=cdL.getD s 0
def grL:List (Nat×List Nat):=[(0,[]),(0,[]),(0,[]),(0,[]),(0,[]),(0,[48,49,50,97,99,101,105,111,115,116]),(20,[32,37,45,46,47,51,52,53,54,55,56,57,61,65,95,98,100,102,103,104,108,109,110,112,114,117]),(92,[58,66,67,68,69,70,71,72,73,74,75,76,77,78,79,80,81,82,83,84,85,86,87,89,106,107,113,118,119,120,121,122]),(248,[38,42,44,59,88,90]),(0,[]),(1016,[33,34,40,41,63]),(2042,[39,43,124]),(4090,[35,62]),(8184,[0,36,64,91,93,126]),(16380,[94,125]),(32764,[60,96,123]),(0,[]),(0,[]),(0,[]),(524272,[92,195,208]),(1048550,[128,130,131,162,184,194,224,226]),(2097116,[153,161,167,172,176,177,179,209,216,217,227,229,230]),(4194258,[129,132,133,134,136,146,154,156,160,163,164,169,170,173,178,181,185,186,187,189,190,196,198,228,232,233]),(8388568,[1,135,137,138,139,140,141,143,147,149,150,151,152,155,157,158,165,166,168,174,175,180,182,183,188,191,197,231,239]),(16777194,[9,142,144,145,148,159,171,206,215,225,236,237]),(33554412,[199,207,234,235]),(67108832,[192,193,200,201,202,205,210,213,218,219,238,240,242,243,255]),(134217694,[203,204,211,212,214,221,222,223,241,244,245,246,247,248,250,251,252,253,254]),(268435426,[2,3,4,5,6,7,8,11,12,14,15,16,17,18,19,20,21,23,24,25,26,27,28,29,30,31,127,220,249]),(0,[]),(1073741820,[10,13,22,256])]
def gr (n:Nat):Nat×List Nat:=grL.getD n (0,[])
def look (c n:Nat):Option Nat:=bif Nat.ble (gr n).1 c then(gr n).2[c-(gr n).1]? else none
def bl:Nat->Nat->List Bool
 |0,_=>[]
 |n+1,c=>c.testBit n::bl n c
def codeB (s:Nat):List Bool:=bl (sz s) (cd s)
def dec:Nat->Nat->List Bool->Option (List Nat)
 |c,n,[]=>bif Nat.blt n 8&&Nat.beq c (2^n-1)then some []else none
 |c,n,b::bs=>
  match look (2*c+b.toNat) (n+1)with
  |some s=>bif Nat.beq s 256 then none else(dec 0 0 bs).map (s::·)
  |none=>bif Nat.blt (n+1) 30 then dec (2*c+b.toNat) (n+1) bs else none
def one (s:Nat):Nat->Nat->List Bool->Bool
 |_,_,[]=>false
 |c,n,b::bs=>
  match look (2*c+b.toNat) (n+1)with
  |some t=>Nat.beq t s&&bs.isEmpty
  |none=>Nat.blt (n+1) 30&&one s (2*c+b.toNat) (n+1) bs
theorem one_l0:(List.range' 0 64).all (λs=>one s 0 0 (codeB s))=true:=by kernel_rfl
theorem one_l1:(List.range' 64 64).all (λs=>one s 0 0 (codeB s))=true:=by kernel_rfl
theorem one_l2:(List.range' 128 64).all (λs=>one s 0 0 (codeB s))=true:=by kernel_rfl
theorem one_l3:(List.range' 192 64).all (λs=>one s 0 0 (codeB s))=true:=by kernel_rfl
theorem one_all (s:Nat) (hs:s<256):one s 0 0 (codeB s)=true:=by
 by_cases h1:s<64
 · exact List.all_eq_true.1 one_l0 s (List.mem_range'_1.2 ⟨by omega,by omega⟩)
 · by_cases h2:s<128
   · exact List.all_eq_true.1 one_l1 s (List.mem_range'_1.2 ⟨by omega,by omega⟩)
   · by_cases h3:s<192
     · exact List.all_eq_true.1 one_l2 s (List.mem_range'_1.2 ⟨by omega,by omega⟩)
     · exact List.all_eq_true.1 one_l3 s (List.mem_range'_1.2 ⟨by omega,by omega⟩)
theorem look_of_list:(List.range 257).all (λs=>(look (cd s) (sz s)==some s))=true:=by kernel_rfl
theorem look_of {s:Nat} (hs:s<257):look (cd s) (sz s)=some s:=by
 have:=List.all_eq_true.1 look_of_list s (List.mem_range.2 hs)
 simpa using this
theorem gr_list:(List.range 31).all (λn=>(List.range (gr n).2.length).all λj=>Nat.blt ((gr n).2.getD j 0) 257&&Nat.beq (cd ((gr n).2.getD j 0)) ((gr n).1+j)&&Nat.beq (sz ((gr n).2.getD j 0)) n)=true:=by kernel_rfl
theorem gr_big {n:Nat} (h:31<=n):(gr n).2=[]:=by
 have:grL[n]?=none:=List.getElem?_eq_none (by simpa [grL]using h);simp[gr,List.getD,this]
theorem look_is {c n s:Nat} (h:look c n=some s):s<257/\cd s=c/\sz s=n:=by
 unfold look at h;cases hb:Nat.ble (gr n).1 c with
 |false=>rw[hb]at h;cases h
 |true=>
  rw[hb]at h;have h0:(gr n).1<=c:=Nat.le_of_ble_eq_true hb;have h:(gr n).2[c-(gr n).1]?=some s:=h;have hn:n<31:=by
   rcases Nat.lt_or_ge n 31 with h1|h1
   · exact h1
   · rw[gr_big h1]at h;cases h
  have hj:=(List.getElem?_eq_some_iff.1 h).1;have h2:=List.all_eq_true.1 (List.all_eq_true.1 gr_list n (List.mem_range.2 hn)) (c-(gr n).1) (List.mem_range.2 hj);have e:(gr n).2.getD (c-(gr n).1) 0=s:=by rw[List.getD,h];rfl
  simp only[e,Bool.and_eq_true]at h2;refine⟨Nat.lt_of_lt_of_eq (Nat.lt_of_lt_of_le (Nat.lt_succ_of_le (Nat.le_refl s)) (Nat.le_of_ble_eq_true h2.1.1)) rfl,?_,Nat.eq_of_beq_eq_true h2.2⟩;have:=Nat.eq_of_beq_eq_true h2.1.2;omega
theorem one_dec {s:Nat} (hs:s<256):∀(l:List Bool) (c n:Nat) (r:List Bool),one s c n l=true->dec c n (l++r)=(dec 0 0 r).map (s::·)
 |[],c,n,r,h=>by simp[one]at h
 |b::bs,c,n,r,h=>by
  rw[List.cons_append,dec];rw[one]at h;cases hk:look (2*c+b.toNat) (n+1)with
  |some t=>
   rw[hk]at h;simp only[Bool.and_eq_true,List.isEmpty_iff]at h;have ht:t=s:=Nat.eq_of_beq_eq_true h.1;subst ht;have h6:Nat.beq t 256=false:=by
    cases hq:Nat.beq t 256 with
    |false=>rfl
    |true=>have:=Nat.eq_of_beq_eq_true hq;omega
   simp[h.2,h6]
  |none=>
   rw[hk]at h;simp only[Bool.and_eq_true]at h;simp only[h.1,cond_true];exact one_dec hs bs _ _ r h.2
def encB:List Nat->List Bool
 |[]=>[]
 |s::l=>codeB s++encB l
theorem ones_dec:∀k<8,dec 0 0 (List.replicate k true)=some []:=by decide+kernel
theorem there_back:∀(l:List Nat) (k:Nat),(∀s∈l,s<256)->k<8->dec 0 0 (encB l++List.replicate k true)=some l
 |[],k,_,hk=>by rw[encB,List.nil_append];exact ones_dec k hk
 |s::l,k,hl,hk=>by
  rw[encB,List.append_assoc,one_dec (hl s (by simp)) _ _ _ _ (one_all s (hl s (by simp))),there_back l k (λt ht=>hl t (by simp[ht])) hk]
  rfl
def val:Nat->List Bool->Nat
 |c,[]=>c
 |c,b::bs=>val (2*c+b.toNat) bs
def bb (x:UInt8):List Bool:=bl 8 x.toNat
def unpack (l:List UInt8):List Bool:=l.flatMap bb
def pack:Nat->List Bool->List UInt8
 |0,_=>[]
 |_+1,[]=>[]
 |k+1,b::l=>UInt8.ofNat (val 0 (((b::l)++List.replicate 7 true).take 8))::pack k ((b::l).drop 8)
theorem byte_all:∀(a b c d e f g h:Bool),bb (UInt8.ofNat (val 0 [a,b,c,d,e,f,g,h]))=[a,b,c,d,e,f,g,h]:=by decide+kernel
theorem take8 {l:List Bool} (h:8<=l.length):∃a b c d e f g i r,l=a::b::c::d::e::f::g::i::r:=by
 match l,h with
 |a::b::c::d::e::f::g::i::r,_=>exact⟨a,b,c,d,e,f,g,i,r,rfl⟩
theorem unpack_pack:∀(k:Nat) (l:List Bool),l.length<=8*k->∃p<8,unpack (pack k l)=l++List.replicate p true
 |0,l,h=>by
  have:l=[]:=List.eq_nil_of_length_eq_zero (by omega);subst this;exact⟨0,by omega,rfl⟩
 |k+1,[],h=>⟨0,by omega,rfl⟩
 |k+1,x::l,h=>by
  rw[pack];by_cases h8:8<=(x::l).length
  · obtain⟨a,b,c,d,e,f,g,i,r,e1⟩:=take8 h8
    obtain⟨p,hp,ih⟩:=unpack_pack k r (by rw[e1]at h;simp at h;omega);refine⟨p,hp,?_⟩;rw[e1];have e2:((a::b::c::d::e::f::g::i::r)++List.replicate 7 true).take 8=[a,b,c,d,e,f,g,i]:=rfl;have e3:(a::b::c::d::e::f::g::i::r).drop 8=r:=rfl;rw[e2,e3];show bb _++unpack (pack k r)=_;rw[byte_all,ih]
    rfl
  · have hd:(x::l).drop 8=[]:=List.drop_eq_nil_of_le (by omega)
    rw[hd];have h2:pack k []=[]:=by cases k<;>rfl
    rw[h2];refine⟨8-(x::l).length,by simp;omega,?_⟩;show bb _++[]=_;rw[List.append_nil];have e1:((x::l)++List.replicate 7 true).take 8=(x::l)++List.replicate (8-(x::l).length) true:=by
     rw[List.take_append];rw[List.take_of_length_le (by omega),List.take_replicate]
     congr 2
     have h1:1<=(x::l).length:=by simp
     omega
    rw[e1];have h0:((x::l)++List.replicate (8-(x::l).length) true).length=8:=by simp at*;omega
    generalize (x::l)++List.replicate (8-(x::l).length) true=q at h0 ⊢;obtain⟨a,b,c,d,e,f,g,i,r,e2⟩:=take8 (Nat.le_of_eq h0.symm);subst e2;have hr:r=[]:=by
     simp only[List.length_cons]at h0;exact List.eq_nil_of_length_eq_zero (by omega)
    subst hr;exact byte_all a b c d e f g i
end Go.Own.Hf
end

section
namespace Go
def Exit.many (G : Nat → Act → World → Prop) (Q : Exit → Act → World → Prop) : Exit → Act → World → Prop
 | .goto l, a, w => G l a w
 | e, a, w => Q e a w
section
variable {P : Program} {a : Act} {w : World} {Q : Exit → Act → World → Prop}
theorem wp_scope_many {c : Code} (J : Nat → Act → World → Prop) (μ : Nat → Act → World → Nat) (hf : ∀ l a w, J l a w → ∃ r, findLabel c l = some (.seq .skip r))
 (first : (∀ l r, findLabel c l = some (.seq .skip r) → ∀ a w, J l a w → r.wp P (Exit.many (fun l' a' w' => J l' a' w') Q) a w) → c.wp P (Exit.many J Q) a w)
 (pass0 : ∀ l r, findLabel c l = some (.seq .skip r) → ∀ a w, J l a w → r.wp P (Exit.many (fun l' a' w' => J l' a' w' ∧ μ l' a' w' < μ l a w) Q) a w) : (Code.scope c).wp P Q a w := by
 have pass : ∀ l r, findLabel c l = some r → ∀ a w, J l a w → r.wp P (Exit.many (fun l' a' w' => J l' a' w' ∧ μ l' a' w' < μ l a w) Q) a w := fun l r hl a w hJ => by
  obtain ⟨r', hr'⟩ := hf l a w hJ
  rw [hr'] at hl
  injection hl with hl
  subst hl
  exact wp_seq (wp_skip (pass0 l r' hr' a w hJ))
 intro b k cs
 have hg : ∀ l r, findLabel c l = some r → gotoIn l (.inScope c :: k) = some (.code r :: .inScope c :: k) := fun l r h => by simp [gotoIn, h]
 have key : ∀ n l r a w, findLabel c l = some r → μ l a w = n → J l a w → ∃ e a' w', Q e a' w' ∧ Arrives P (lone (b.at a (.code r :: .inScope c :: k)) cs w) b k cs e a' w' := by
  intro n
  induction n using Nat.strongRecOn with
  | _ n ih =>
    intro l r a w hl hn hJ
    obtain ⟨e, a₁, w₁, hq, harr⟩ := pass l r hl a w hJ b (.inScope c :: k) cs
    cases e with
    | normal => exact ⟨.normal, a₁, w₁, hq, Steps.trans harr (.one step_inScope)⟩
    | exit id => exact ⟨.exit id, a₁, w₁, hq, fun k' hk => harr k' (by simp [exitTo, hk])⟩
    | goto l' =>
      obtain ⟨hJ', hlt⟩ := hq
      obtain ⟨r0, hr'⟩ := hf _ _ _ hJ'
      obtain ⟨e₂, a₂, w₂, hq₂, harr₂⟩ := ih _ (by omega) l' _ a₁ w₁ hr' rfl hJ'
      exact ⟨e₂, a₂, w₂, hq₂, .of_steps (harr _ (hg _ _ hr')) harr₂⟩
    | ret => exact ⟨_, a₁, w₁, hq, harr⟩
    | panic ch => exact ⟨_, a₁, w₁, hq, harr⟩
    | outgrown => exact ⟨_, a₁, w₁, hq, harr⟩
 have first' := first fun l r hl a w hJ => by
  refine Code.wp_mono (fun e a' w' h => ?_) (pass0 l r hl a w hJ)
  cases e with
  | goto l => exact h.1
  | normal => exact h
  | exit id => exact h
  | ret => exact h
  | panic ch => exact h
  | outgrown => exact h
 obtain ⟨e, a₁, w₁, hq, harr⟩ := first' b (.inScope c :: k) cs
 cases e with
 | normal => exact ⟨.normal, a₁, w₁, hq, .head step_scope (Steps.trans harr (.one step_inScope))⟩
 | exit id => exact ⟨.exit id, a₁, w₁, hq, fun k' hk => .head step_scope (harr k' (by simp [exitTo, hk]))⟩
 | goto l' =>
   obtain ⟨r', hr'⟩ := hf _ _ _ hq
   obtain ⟨e₂, a₂, w₂, hq₂, harr₂⟩ := key _ l' _ a₁ w₁ hr' rfl hq
   exact ⟨e₂, a₂, w₂, hq₂, .of_steps (.head step_scope (harr _ (hg _ _ hr'))) harr₂⟩
 | ret => exact ⟨_, a₁, w₁, hq, .of_steps (.one step_scope) harr⟩
 | panic ch => exact ⟨_, a₁, w₁, hq, .of_steps (.one step_scope) harr⟩
 | outgrown => exact ⟨_, a₁, w₁, hq, .of_steps (.one step_scope) harr⟩
end
end Go
end
