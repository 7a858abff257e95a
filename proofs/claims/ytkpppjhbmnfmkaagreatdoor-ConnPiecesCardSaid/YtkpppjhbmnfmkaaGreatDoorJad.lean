/-
  
  
  
  
  
  
  
  
  
  
  
  
-/
import Derived.Lib.IndexMore
import Derived.Lib.IndexAny
import Derived.Test.YtkpppjhbmnfmkaaGreatDoorJaa
import Derived.Test.YtkpppjhbmnfmkaaGreatDoorJae
import Derived.WalkKit
import Derived.Outline
import Derived.LoopTactic
import Derived.Laws.RangeAny
import Derived.Laws.Strings3
import Derived.Deep.LoopGhost
import Derived.Laws.AppendOwn
import Derived.Maps.AppendAt
import Derived.Laws.OwnMore
import Derived.Deep.AppendLies
import Derived.OwnWalk
import Derived.WalkSpells
import Derived.Lib.LazyBuf
import Derived.Deep.RegionWith
import Derived.Maps.OwnSet
import Derived.Maps.OwnOps
import Derived.Maps.RangeWalk
import Derived.Maps.StringElems
import Derived.Deep.QuietTactic
import Derived.BigQuiet
import Derived.WalkMore
import Derived.Deep.RegionHeld3
import Derived.Deep.DrawnRows
import Derived.Deep.RegionLaw
import Derived.Laws.EntriesVeiled
import Derived.RegionTactic
set_option linter.unusedSimpArgs false
set_option linter.unusedVariables false
section
namespace Go.Own.Hd
open Go
structure HdrV where
 name:ByteArray
 value:ByteArray
 never:Bool
def tx (s:ByteArray):List UInt8:=s.data.toList
def signs:List UInt8:=[33,35,36,37,38,39,42,43,45,46,94,95,96,124,126]
def nameC (c:UInt8):Bool:=decide (97<=c.toNat/\c.toNat<=122)||decide (48<=c.toNat/\c.toNat<=57)||Lib.contains signs (Utf8.encode (c.toNat:Int)).data.toList
def nameB (l:List UInt8):Bool:= !l.isEmpty&&l.all nameC
def blankB (c:UInt8):Bool:=c==32||c==9
def valueB (l:List UInt8):Bool:= !Lib.containsAny l [0,13,10]&&(l.isEmpty||(!blankB (l.getD 0 0)&& !blankB (l.getD (l.length-1) 0)))
def conn:List UInt8:=[99,111,110,110,101,99,116,105,111,110]
def pconn:List UInt8:=[112,114,111,120,121,45]++conn
def keepa:List UInt8:=[107,101,101,112,45,97,108,105,118,101]
def trenc:List UInt8:=[116,114,97,110,115,102,101,114,45,101,110,99,111,100,105,110,103]
def upgr:List UInt8:=[117,112,103,114,97,100,101]
def te:List UInt8:=[116,101]
def trails:List UInt8:=[116,114,97,105,108,101,114,115]
def plainB (h:HdrV):Bool:=
 if tx h.name=conn\/tx h.name=pconn\/tx h.name=keepa\/tx h.name=trenc\/tx h.name=upgr then false
 else if tx h.name=te then decide (tx h.value=trails)else nameB (tx h.name)&&valueB (tx h.value)
def colonB (h:HdrV):Bool:=decide (tx h.name≠[]/\(tx h.name).getD 0 0=58)
section
variable {σ:Type}
structure RuleF (σ:Type) where
 name:List UInt8
 must:Bool
 take:ByteArray->σ->Bool×σ
def musts (rs:List (RuleF σ)) (met:List (List UInt8)):Bool:=rs.all λr=> !r.must||met.contains r.name
def step (rs:List (RuleF σ)) (h:HdrV) (met:List (List UInt8)) (s:σ):Option σ:=
 match rs.find? (λr=>r.name==tx h.name)with
 |none=>none
 |some r=>if met.contains (tx h.name)then none else if valueB (tx h.value)then(if(r.take h.value s).1 then some (r.take h.value s).2 else none)else none
def preP (rs:List (RuleF σ)):List HdrV->List (List UInt8)->σ->Option σ
 |[],met,s=>if musts rs met then some s else none
 |h::t,met,s=>match step rs h met s with
  |none=>none
  |some s'=>preP rs t (met++[tx h.name]) s'
def openS (rs:List (RuleF σ)) (l:List HdrV) (s:σ):Option (List HdrV×σ):=
 match preP rs (l.takeWhile colonB) [] s with
 |none=>none
 |some s'=>if(l.dropWhile colonB).all plainB then some (l.dropWhile colonB,s')else none
variable {rs:List (RuleF σ)} {s:σ}
end
end Go.Own.Hd
end

section
set_option maxHeartbeats 2000000
set_option maxRecDepth 100000
namespace Go.Proofs.YtkpppjhbmnfmkaaGreatDoor.H6
open Lib (hid)
open Go.RowKit Go.Own Go.Own.Hd
structure EnvH (w:World) (e1 e2 e3:Addr):Prop where
 head:w.cell? ⟨0,0,none⟩=some (.iface 327 (.pointer (some e1)))
 synt:w.cell? ⟨14,0,none⟩=some (.iface 327 (.pointer (some e2)))
 rang:w.cell? ⟨15,0,none⟩=some (.iface 327 (.pointer (some e3)))
 top:∃m,w.cell? ⟨13,0,none⟩=some (.int .i64 m)
 pow:Lib.TabIs Tryz.prog w "internal/strconv.uint64pow10" .u64 Lib.pow10Tab
 room:20<=w.heap.size
theorem EnvH.kept {w w':World} {e1 e2 e3:Addr} (he:EnvH w e1 e2 e3) (hk:∀i,i<20->w'.heap[i]?=w.heap[i]?) (hz:20<=w'.heap.size):EnvH w' e1 e2 e3:=by
 have hc:∀i,i<20->∀o,w'.cell? ⟨i,o,none⟩=w.cell? ⟨i,o,none⟩:=λi hi o=>World.cell?_of_block (hk i hi);obtain⟨m,hm⟩:=he.top;refine⟨(hc _ (by decide) _).trans he.head,(hc _ (by decide) _).trans he.synt,(hc _ (by decide) _).trans he.rang,⟨m,(hc _ (by decide) _).trans hm⟩,?_,hz⟩;have ht:=he.pow;unfold Lib.TabIs World.var? at ht ⊢;rw[show Tryz.prog.globalNamed "internal/strconv.uint64pow10" =some 17 by kernel_rfl]at ht ⊢;simp only[Option.bind_some]at ht ⊢;rw[hk _ (by decide)];exact ht
theorem EnvH.below {w w':World} {B:Nat} {e1 e2 e3:Addr} (he:EnvH w e1 e2 e3) (hb:Below B w w') (hB:20<=B):EnvH w' e1 e2 e3:=
 he.kept (λi hi=>hb.block i (by omega)) (Nat.le_trans he.room hb.size)
theorem EnvH.grown {w w':World} {row:Option Nat} {e1 e2 e3:Addr} (he:EnvH w e1 e2 e3) (hb:w.grownBy w' row) (hr:∀g,row=some g->20<=g):EnvH w' e1 e2 e3:=
 he.kept (λi hi=>hb.block i (by have:=he.room;omega) (λe=>by have:=hr i e.symm;omega)) (Nat.le_trans he.room hb.size)
theorem idx_str {P:Program} {t:TypeId} (ht:P.underlying t=some .string) (s:ByteArray) (k:Nat) (i:Int) (hi:i=(k:Int)) (hk:k<s.size) (W:World):
 (Instr.index t (.string s) (.int .i64 i)).run P W= .ok (.int .u8 ((s.data.toList.getD k 0).toNat:Int)) W:=by
 subst hi;have h0:(k:Int)<(s.size:Int):=by omega
 have e:s.data.toList.getD k 0=s[k]:=by
  rw[List.getD,List.getElem?_eq_getElem (by simpa using hk)]
  rfl
 simp[Instr.index,run_underlying ht,asIntOf,hk,e]
 rfl
theorem all_take_succ (l:List UInt8) (p:UInt8->Bool) (k:Nat) (hk:k<l.length) (h:(l.take k).all p=true) (hp:p (l.getD k 0)=true):(l.take (k+1)).all p=true:=by
 rw[List.take_succ_eq_append_getElem hk,List.all_append,h];have:l.getD k 0=l[k]:=by simp[List.getD,hk]
 rw[<-this];simp only[List.all_cons,List.all_nil,hp,Bool.and_true,Bool.true_and]
theorem all_not (l:List UInt8) (p:UInt8->Bool) (k:Nat) (hk:k<l.length) (hp:p (l.getD k 0)=false):l.all p=false:=by
 rw[Bool.eq_false_iff];intro h;have:=List.all_eq_true.1 h (l[k]) (List.getElem_mem hk);have e:l.getD k 0=l[k]:=by simp[List.getD,hk]
 rw[e]at hp;rw[hp]at this;cases this
def NamePost (l:List UInt8) (w:World) (e:Ending) (w':World):Prop:=e= .returned (.bool (nameB l))/\w=w'
theorem name_any (t:ByteArray) (w:World) {e1 e2 e3:Addr} (he:EnvH w e1 e2 e3) (hsz:t.size<=1000000000):
 Calls Tryz.prog 211 #[.string t] w (NamePost t.data.toList w):=by
 obtain⟨m,hm⟩:=he.top;have HC:∀sub:ByteArray,Hid (Calls Tryz.prog 231 #[.string ⟨#[33,35,36,37,38,39,42,43,45,46,94,95,96,124,126]⟩,.string sub] w λe w'=>e= .returned (.bool (Lib.contains signs sub.data.toList))/\w=w'):=λsub=>
  hid ((Tryz.strings_Contains ⟨#[33,35,36,37,38,39,42,43,45,46,94,95,96,124,126]⟩ sub m w (by decide) hm).mono λ_ _ h=>⟨h.1,h.2.symm⟩)
 clear he hm;go_enter Tryz.func211,Tryz.ntmps211;go_wp2;go_loop [7] (λi=>∃k:Nat,k<=t.size/\i= .int .i64 k/\Hid ((t.data.toList.take k).all nameC=true)) (λi=>t.size-(intOf i).toNat)
 case atStart=>exact⟨0,by omega,rfl,hid (by simp)⟩
 case round=>
  obtain⟨k,hk,rfl,HA⟩:=hrel;by_cases h3:k<t.size
  · have h4:=idx_str (P:=Tryz.prog) Tryz.underlying9 t k (k:Int) rfl h3
    obtain⟨c,hc⟩:∃c,t.data.toList.getD k 0=c:=⟨_,rfl⟩;rw[hc]at h4;obtain⟨x,hx⟩:∃x,c.toNat=x:=⟨_,rfl⟩;rw[hx]at h4;have h8:x<256:=by rw[<-hx];exact c.toNat_lt
    have HX:=hid hx;have h5:=hid hc;clear hc hx;by_cases h1:(97<=x/\x<=122)\/(48<=x/\x<=57)
    · have HN:Hid ((t.data.toList.take (k+1)).all nameC=true):=hid (all_take_succ _ _ _ h3 HA.out (by
       rw[h5.out];unfold nameC;rw[HX.out];rcases h1 with h|h<;>simp[h]))
      rcases h1 with⟨l1,l2⟩|⟨l1,l2⟩
      all_goals
       go_wp2;exact⟨⟨k+1,by omega,by go_num,HN⟩,by simp[intOf];omega⟩
    · obtain⟨b,hb⟩:∃b,Lib.contains signs (Utf8.encode (x:Int)).data.toList=b:=⟨_,rfl⟩
      have h0:=(HC (Utf8.encode (x:Int))).out;rw[hb]at h0;have h2:=hid h0;have hn:nameC (t.data.toList.getD k 0)=b:=by
       rw[h5.out];unfold nameC;rw[HX.out,hb];have g1:¬(97<=x/\x<=122):=λh=>h1 (.inl h);have g2:¬(48<=x/\x<=57):=λh=>h1 (.inr h);simp[g1,g2]
      have h6:=hid hn;have g1:x<97\/122<x:=by omega
      have g2:x<48\/57<x:=by omega
      clear hn h0 hb h1;rcases b with _|_
      · have HF:Hid (nameB t.data.toList=false):=hid (by unfold nameB;rw[all_not _ _ _ h3 h6.out];simp)
        rcases g1 with g1|g1
        all_goals
         rcases g2 with g2|g2
         all_goals first
          |omega
          |(go_wp2_with ((with_reducible refine(h2.out).mono ?_);rintro e w' ⟨rfl,rfl⟩)
            go_ret;exact⟨by rw[HF.out];rfl,rfl⟩)
      · have HN:=hid (all_take_succ _ _ _ h3 HA.out h6.out)
        rcases g1 with g1|g1
        all_goals
         rcases g2 with g2|g2
         all_goals first
          |omega
          |(go_wp2_with ((with_reducible refine(h2.out).mono ?_);rintro e w' ⟨rfl,rfl⟩)
            exact⟨⟨k+1,by omega,by go_num,HN⟩,by simp[intOf];omega⟩)
  · have h7:k=t.size:=by omega
    have HF:Hid (nameB t.data.toList= !t.toList.isEmpty):=hid (by
     have:=HA.out;rw[h7,List.take_of_length_le (Nat.le_refl t.size)]at this;unfold nameB;rw[this,Lib.toList_data];simp)
    clear h7;go_wp2;go_ret;exact⟨by rw[HF.out];rfl,rfl⟩
theorem blank_any (c:UInt8) (x:Int) (hx:x=(c.toNat:Int)) (w:World):Calls Tryz.prog 168 #[.int .u8 x] w λe w'=>e= .returned (.bool (blankB c))/\w=w':=by
 subst hx;have h1:(((c.toNat:Nat):Int)==32)=(c==32):=by
  rw[Bool.eq_iff_iff];simp only[beq_iff_eq];constructor
  · intro h;exact UInt8.toNat_inj.1 (by simpa using(by omega:c.toNat=32))
  · rintro rfl;rfl
 have h2:(((c.toNat:Nat):Int)==9)=(c==9):=by
  rw[Bool.eq_iff_iff];simp only[beq_iff_eq];constructor
  · intro h;exact UInt8.toNat_inj.1 (by simpa using(by omega:c.toNat=9))
  · rintro rfl;rfl
 have HB:Hid (blankB c=(((c.toNat:Nat):Int)==32||((c.toNat:Nat):Int)==9)):=hid (by rw[h1,h2];rfl);clear h1 h2;obtain⟨x,hx⟩:∃x:Int,((c.toNat:Nat):Int)=x:=⟨_,rfl⟩;rw[hx]at HB ⊢;clear hx;by_cases g1:x=32
 · subst g1
   go_enter Tryz.func168,Tryz.ntmps168;go_wp2;go_ret;exact⟨by rw[HB.out];rfl,rfl⟩
 · have g2:(x==32)=false:=by rw[beq_eq_false_iff_ne];exact g1
   go_enter Tryz.func168,Tryz.ntmps168;go_wp2;go_ret;exact⟨by rw[HB.out,g2];rfl,rfl⟩
end Go.Proofs.YtkpppjhbmnfmkaaGreatDoor.H6
end

section
set_option maxRecDepth 100000
namespace Go.Proofs.YtkpppjhbmnfmkaaGreatDoor.H6
open Go.RowKit Go.Own Go.Own.Hd
def hcell (h:HdrV):List Value:=[.string h.name,.string h.value,.bool h.never]
def hcells (l:List HdrV):List Value:=l.flatMap hcell
theorem hcells_len (l:List HdrV):(hcells l).length=l.length*3:=by
 induction l with
 |nil=>rfl
 |cons h l ih=>simp[hcells,hcell]at ih ⊢;omega
theorem hcells_append (a b:List HdrV):hcells (a++b)=hcells a++hcells b:=by simp[hcells]
theorem hcells_one (l:List HdrV):∀u∈hcells l,u.oneCell'=true:=by
 intro u hu;simp[hcells,hcell]at hu;obtain⟨h,_,h1⟩:=hu;rcases h1 with rfl|rfl|rfl<;>rfl
theorem hcells_at (l:List HdrV) (j:Nat) (hj:j<l.length):(hcells l)[j*3]?=some (.string l[j].name)/\(hcells l)[j*3+1]?=some (.string l[j].value)/\(hcells l)[j*3+2]?=some (.bool l[j].never):=by
 induction l generalizing j with
 |nil=>simp at hj
 |cons h l ih=>
  cases j with
  |zero=>simp[hcells,hcell]
  |succ j=>
   have:=ih j (by simpa using hj);have e:hcells (h::l)=hcell h++hcells l:=rfl;rw[e];have h3:(hcell h).length=3:=rfl;refine⟨?_,?_,?_⟩
   · rw[List.getElem?_append_right (by rw[h3];omega),h3,show(j+1)*3-3=j*3 by omega];simpa using this.1
   · rw[List.getElem?_append_right (by rw[h3];omega),h3,show(j+1)*3+1-3=j*3+1 by omega];simpa using this.2.1
   · rw[List.getElem?_append_right (by rw[h3];omega),h3,show(j+1)*3+2-3=j*3+2 by omega];simpa using this.2.2
def Hw (w:World) (base:Nat) (v:Value) (l:List HdrV):Prop:=w.ownsRow base 63 3 v l.length (hcells l)
theorem Hw.form {w:World} {base:Nat} {v:Value} {l:List HdrV} (h:Hw w base v l):∃A c,v= .slice A l.length c/\l.length<=c/\c<=maxLen:=by
 rcases h.2 with⟨rfl,h0⟩|⟨g,cap,cur,rfl,hb,hg,hn,hm,_⟩
 · exact⟨none,0,by rw[h0],by omega,by simp[maxLen]⟩
 · exact⟨_,cap,rfl,hn,hm⟩
theorem Hw.base {w:World} {base base':Nat} {v:Value} {l:List HdrV} (h:Hw w base v l) (hb:base'<=base):Hw w base' v l:=by
 refine⟨h.1,?_⟩;rcases h.2 with h0|⟨g,cap,cur,e,h1,rest⟩
 · exact .inl h0
 · exact .inr ⟨g,cap,cur,e,Nat.le_trans hb h1,rest⟩
theorem Hw.lt {w:World} {base:Nat} {v:Value} {l:List HdrV} (h:Hw w base v l):∀k,v.ownBlock=some k->base<=k/\k<w.heap.size:=World.ownsRow.lt h
theorem Hw.grown {w w':World} {base:Nat} {v:Value} {l:List HdrV} {row:Option Nat} (h:Hw w base v l) (hg:w.grownBy w' row) (hne:v.ownBlock=none\/v.ownBlock≠row):Hw w' base v l:=World.ownsRow.kept h hg hne
theorem own_or (v:Value):v.ownBlock=none\/v.ownBlock≠none:=by cases v.ownBlock<;>simp
theorem Hw.below {w w':World} {base:Nat} {v:Value} {l:List HdrV} (h:Hw w base v l) (hb:Below w.heap.size w w'):Hw w' base v l:=h.grown (grown_of_below hb none) (own_or v)
theorem Hw.nil (w:World) (base:Nat):Hw w base (.slice none 0 0) []:=⟨rfl,.inl ⟨rfl,rfl⟩⟩
theorem infoH:∃i,Tryz.prog.info? 63=some i/\i.zero=some (.agg #[.string ⟨#[]⟩,.string ⟨#[]⟩,.bool false])/\i.size=3/\i.bytes=40:=
 info_parts (show(Tryz.prog.info? 63).map (λi=>(i.zero,i.size,i.bytes))=some (some (.agg #[.string ⟨#[]⟩,.string ⟨#[]⟩,.bool false]),3,40)by kernel_rfl)
def Hr (w:World) (A:Option Addr) (n:Nat) (l:List HdrV):Prop:=
 l.length=n/\∀(j:Nat) u,(hcells l)[j]?=some u->∃ad,A=some ad/\ad.block<w.heap.size/\w.cell? (ad.add j)=some u
theorem Hr.below {w w':World} {A:Option Addr} {n:Nat} {l:List HdrV} (h:Hr w A n l) (hb:Below w.heap.size w w'):Hr w' A n l:=
 ⟨h.1,λj u hu=>by
   obtain⟨ad,e,h1,h2⟩:=h.2 j u hu;exact⟨ad,e,Nat.lt_of_lt_of_le h1 hb.size,(hb.cell (by rw[add_block];exact h1)).trans h2⟩⟩
theorem run_app_h (w:World) (ty:TypeId) (A:Option Addr) (n c:Nat) (l:List HdrV) (hr:Hr w A n l) (hb:n<=100000):
 ∃v' w',(Builtin.append_ #[41,41] ty #[.slice none 0 0,.slice A n c]).run Tryz.prog w= .ok v' w'/\Hw w' w.heap.size v' l/\Below w.heap.size w w':=by
 obtain⟨i,hi,hz,h1,h2⟩:=infoH;rcases A with _|ad
 · have hl:l=[]:=by
    rcases l with _|⟨h,l⟩
    · rfl
    · obtain⟨ad,e,_⟩:=hr.2 0 _ (show(hcells (h::l))[0]?=some (.string h.name)from rfl)
      cases e
   subst hl;obtain rfl:n=0:=by have:=hr.1;simpa using this.symm
   refine⟨.slice none 0 0,w,?_,Hw.nil _ _,Below.refl _ _⟩;simp[Builtin.append_,run_underlying Tryz.underlying41,sizeOf,typeInfo,hi,Builtin.lenOf,Builtin.firstCells]
 · obtain⟨v',w',h0,r1,r2,_,r4⟩:=run_append_own_at (P:=Tryz.prog) w w.heap.size 41 ty 63 i _ 3 40 Tryz.underlying41 hi hz h1 h2 rfl (by decide) (.slice none 0 0) 0 [] (World.ownsRow_nil _ _ _ _) ad n c (hcells l) (by rw[hcells_len,hr.1]) (λj u hu=>by
    obtain⟨ad',e,_,h⟩:=hr.2 j u hu;obtain rfl:=Option.some.inj e;exact h) (hcells_one l) (by simp only[maxLen];omega) (by omega) (Nat.le_refl _)
   refine⟨v',w',h0,?_,(Below.refl _ _).grown r2 (Nat.le_refl _) (λk e=>by simp[Value.ownBlock]at e)⟩;unfold Hw;rw[hr.1];rw[Nat.zero_add,List.nil_append]at r1;exact r1
section
variable {ops:Array Oper} {rest:List Oper} {o:Oper} {a:Act} {Q:Exit->Act->World->Prop}
end
section
variable {ops:Array Oper} {rest:List Oper} {o:Oper} {a:Act} {Q:Exit->Act->World->Prop}
end
theorem Hr.at_ {w:World} {A:Option Addr} {n k:Nat} {l:List HdrV} (h:Hr w A n l) (hk:k<n):∃ad,A=some ad/\w.cell? (ad.add (k*3))=some (.string (l.getD k ⟨⟨#[]⟩,⟨#[]⟩,false⟩).name)/\w.cell? ⟨(ad.add (k*3)).block,(ad.add (k*3)).off+1,none⟩=some (.string (l.getD k ⟨⟨#[]⟩,⟨#[]⟩,false⟩).value)/\
 w.cell? ⟨(ad.add (k*3)).block,(ad.add (k*3)).off+2,none⟩=some (.bool (l.getD k ⟨⟨#[]⟩,⟨#[]⟩,false⟩).never):=by
 have hl:=h.1;have hc:=hcells_at l k (by omega);have e:l.getD k ⟨⟨#[]⟩,⟨#[]⟩,false⟩=l[k]'(by omega):=by simp[List.getD,show k<l.length by omega]
 rw[e];obtain⟨ad,e0,_,h0⟩:=h.2 _ _ hc.1;obtain⟨ad1,e1,_,h1⟩:=h.2 _ _ hc.2.1;obtain⟨ad2,e2,_,h2⟩:=h.2 _ _ hc.2.2;obtain rfl:=Option.some.inj (e0.symm.trans e1);obtain rfl:=Option.some.inj (e0.symm.trans e2);rw[<-add_two]at h1 h2;exact⟨ad,e0,h0,h1,h2⟩
end Go.Proofs.YtkpppjhbmnfmkaaGreatDoor.H6
end

section
set_option maxRecDepth 100000
namespace Go.Own.Hd
open Go Go.WideShapes Go.WideElems
variable {σ:Type}
def okR (v:Value):Bool:=match v with
 | .agg cs=>match cs.toList with
   |[.bool _,_]=>true
   |_=>false
 |_=>false
def R6 (v:Value):Option (DataW Value×List MemPlace):=if okR v then some (.held v,[])else none
theorem R6_mk (b:Bool) (f:Value):R6 (.agg #[.bool b,f])=some (.held (.agg #[.bool b,f]),[]):=rfl
theorem R6_inv {v:Value} {y:DataW Value×List MemPlace} (h:R6 v=some y):∃b f,v= .agg #[.bool b,f]/\y=(.held v,[]):=by
 unfold R6 at h
 split at h
 · rename_i ho
   unfold okR at ho
   split at ho
   · rename_i cs
     split at ho
     · rename_i b f h0
       refine⟨b,f,?_,by simpa using h.symm⟩;obtain⟨l⟩:=cs;simp only at h0;rw[h0]
     · cases ho
   · cases ho
 · cases h
def lt (nm:List UInt8):Lit:=.string nm
theorem keyLit (nm:List UInt8):WideAt.IsKeyLit (lt nm):=by
 simp[lt,WideAt.IsKeyLit]
theorem lt_ne {a b:List UInt8} (h:a≠b):lt a≠lt b:=λe=>h (by injection e)
def RD (D:DataW Value) (rs:List (RuleF σ×Value)):Prop:=
 Maps.IsMap D/\∀nm,(rs.find? (λr=>r.1.name==nm)=none->Maps.has D (lt nm)=false)/\∀r,rs.find? (λr=>r.1.name==nm)=some r->Maps.has D (lt nm)=true/\∀z,D.atKey (lt nm) z= .held (.agg #[.bool r.1.must,r.2])
theorem RD_nil:RD (.map []) ([]:List (RuleF σ×Value)):=⟨Maps.isMap_empty,λnm=>⟨λ_=>rfl,λr h=>by cases h⟩⟩
theorem RD_put {D:DataW Value} {rs:List (RuleF σ×Value)} (h:RD D rs) (r:RuleF σ×Value) (hn:rs.find? (λx=>x.1.name==r.1.name)=none):RD (D.put (lt r.1.name) (.held (.agg #[.bool r.1.must,r.2]))) (rs++[r]):=by
 refine⟨h.1.put _ _,λnm=>?_⟩;by_cases e:r.1.name=nm
 · subst e
   rw[List.find?_append,hn];refine⟨λhx=>by simp at hx,λr' h0=>?_⟩;simp at h0;subst h0;exact⟨Maps.has_put_same h.1 (keyLit _) _,λz=>Maps.atKey_put_same h.1 (keyLit _) _ _⟩
 · have e2:[r].find? (λx=>x.1.name==nm)=none:=by simp[e]
   rw[List.find?_append,e2,Option.or_none];rw[Maps.has_put_other (lt_ne (Ne.symm e))];refine⟨(h.2 nm).1,λr' h0=>⟨((h.2 nm).2 r' h0).1,λz=>?_⟩⟩;rw[Maps.atKey_put_other (lt_ne (Ne.symm e))];exact((h.2 nm).2 r' h0).2 z
def MD (D:DataW Value) (met:List (List UInt8)):Prop:=Maps.IsMap D/\∀nm,D.atKey (lt nm) (.lit (.bool false))= .lit (.bool (met.contains nm))
theorem MD_nil:MD (.map []) []:=⟨Maps.isMap_empty,λ_=>rfl⟩
theorem MD_put {D:DataW Value} {met:List (List UInt8)} (h:MD D met) (a:List UInt8):MD (D.put (lt a) (.lit (.bool true))) (met++[a]):=by
 refine⟨h.1.put _ _,λnm=>?_⟩;by_cases e:nm=a
 · subst e
   rw[Maps.atKey_put_same h.1 (keyLit _)];simp
 · rw[Maps.atKey_put_other (lt_ne e),h.2 nm]
   simp[e]
end Go.Own.Hd
namespace Go.Proofs.YtkpppjhbmnfmkaaGreatDoor.H6
open Go.RowKit Go.Own Go.Own.Hd Go.WideShapes
variable {σ:Type}
theorem key_str (s:ByteArray) (h:s.size<=maxLen):keyOf Tryz.prog 9 (.string s)=some (lt s.data.toList):=by
 simp[keyOf,Tryz.underlying9,mapKey,h,lt]
theorem keyed_str:Maps.Keyed Tryz.prog 9:=Maps.string_keyed Tryz.underlying9
theorem zero_rule (w:World):(zeroValue 170).run Tryz.prog w= .ok (.agg #[.bool false,.nilFunc]) w:=by kernel_rfl
theorem zero_bool (w:World):(zeroValue 4).run Tryz.prog w= .ok (.bool false) w:=by kernel_rfl
def RM (w:World) (b n:Nat) (rs:List (RuleF σ×Value)):Prop:=∃D,w.ownsMap Tryz.prog 9 R6 b n D/\RD D rs
def MM (w:World) (b n:Nat) (met:List (List UInt8)):Prop:=∃D,w.ownsMap Tryz.prog 9 (plainElem Tryz.prog 4) b n D/\MD D met
theorem RM.kept {w w':World} {b n:Nat} {rs:List (RuleF σ×Value)} {row:Option Nat} (h:RM w b n rs) (hg:w.grownBy w' row) (hne:some b≠row):RM w' b n rs:=by
 obtain⟨D,h1,h3⟩:=h;exact⟨D,h1.kept hg hne,h3⟩
theorem MM.kept {w w':World} {b n:Nat} {met:List (List UInt8)} {row:Option Nat} (h:MM w b n met) (hg:w.grownBy w' row) (hne:some b≠row):MM w' b n met:=by
 obtain⟨D,h1,h3⟩:=h;exact⟨D,h1.kept hg hne,h3⟩
theorem MM.lt {w:World} {b n:Nat} {met:List (List UInt8)} (h:MM w b n met):b<w.heap.size:=by
 obtain⟨D,h1,_⟩:=h;exact h1.lt
theorem RM.lt {w:World} {b n:Nat} {rs:List (RuleF σ×Value)} (h:RM w b n rs):b<w.heap.size:=by
 obtain⟨D,h1,_⟩:=h;exact h1.lt
theorem run_rule {w:World} {b n:Nat} {rs:List (RuleF σ×Value)} (h:RM w b n rs) (s:ByteArray) (hs:s.size<=maxLen):
 ∃m fv,(Instr.lookup 172 (.map (some b)) (.string s) true).run Tryz.prog w= .ok (.tuple #[.agg #[.bool m,fv],.bool (rs.find? (λr=>r.1.name==s.data.toList)).isSome]) w/\(∀r,rs.find? (λr=>r.1.name==s.data.toList)=some r->m=r.1.must/\fv=r.2)/\(rs.find? (λr=>r.1.name==s.data.toList)=none->m=false/\fv= .nilFunc):=by
 obtain⟨D,h1,h3⟩:=h;obtain⟨v,ps,h0,hv⟩:=h1.look_ok keyed_str Tryz.underlying172 (zero_rule w) (R6_mk false .nilFunc) (key_str s hs);obtain⟨m,fv,rfl,hy⟩:=R6_inv hv;refine⟨m,fv,?_,λr hr=>?_,λhn=>?_⟩
 · rw[h0]
   have e:Maps.has D (lt s.data.toList)=(rs.find? (λr=>r.1.name==s.data.toList)).isSome:=by
    cases hf:rs.find? (λr=>r.1.name==s.data.toList)with
    |none=>rw[(h3.2 _).1 hf];rfl
    |some r=>rw[((h3.2 _).2 r hf).1];rfl
   rw[e]
 · rw[((h3.2 _).2 r hr).2]at hy
   simp only[Prod.mk.injEq,DataW.held.injEq,Value.agg.injEq]at hy;have:=hy.1;simp at this;exact⟨this.1.symm,this.2.symm⟩
 · rw[Maps.atKey_of_not_has ((h3.2 _).1 hn)]at hy
   simp only[Prod.mk.injEq,DataW.held.injEq,Value.agg.injEq]at hy;have:=hy.1;simp at this;exact⟨this.1,this.2.symm⟩
theorem run_met {w:World} {b n:Nat} {met:List (List UInt8)} (h:MM w b n met) (s:ByteArray) (hs:s.size<=maxLen):
 (Instr.lookup 211 (.map (some b)) (.string s) false).run Tryz.prog w= .ok (.bool (met.contains s.data.toList)) w:=by
 obtain⟨D,h1,h3⟩:=h;obtain⟨v,ps,h0,hv⟩:=h1.lookup keyed_str Tryz.underlying211 (zero_bool w) (plainElem_bool Tryz.underlying4 false) (key_str s hs);rw[h3.2]at hv;rw[h0];have:v= .bool (met.contains s.data.toList):=by
  unfold plainElem at hv;rw[Tryz.underlying4]at hv;cases v<;>simp at hv
  rw[hv.1];simp
 rw[this]
section
variable {ops:Array Oper} {rest:List Oper} {o:Oper} {a:Act} {Q:Exit->Act->World->Prop}
theorem wpList_lay_rule (w:World) (hg:o.guard=none) (m x v:Operand) (hop:o.op=Op.insert 172 m x v) (b n:Nat) (rs:List (RuleF σ×Value)) (hm:a.eval m= .map (some b)) (h:RM w b n rs) (hk9:n<9)
 (r:RuleF σ×Value) (s:ByteArray) (hsz:s.size<=maxLen) (hs:r.1.name=s.data.toList) (hx:a.eval x= .string s) (hv:a.eval v= .agg #[.bool r.1.must,r.2]) (hn:rs.find? (λq=>q.1.name==r.1.name)=none)
 (hK:∀w',RM w' b (n+1) (rs++[r])->w.grownBy w' (some b)->wpList Tryz.prog ops Q rest (a.put o.dst undef) w'):wpList Tryz.prog ops Q (o::rest) a w:=by
 refine wpList_plain hg λK' h2=>?_;obtain⟨D,h1,h3⟩:=h;obtain⟨w',h0,r1,r2⟩:=h1.update keyed_str Tryz.underlying172 (by simp only[maxLen];omega) (key_str s hsz) (R6_mk r.1.must r.2);unfold Oper.wp;simp[execOp,hop,hm,hx,hv,h0,Result.andThen];refine h2 _ _ (hK w' ⟨_,r1,?_⟩ r2);rw[<-hs];exact RD_put h3 r hn
theorem wpList_lay_met (w:World) (hg:o.guard=none) (m x v:Operand) (hop:o.op=Op.mapUpdate 211 m x v) (b n:Nat) (met:List (List UInt8)) (hm:a.eval m= .map (some b)) (h:MM w b n met) (hk9:n<1000000)
 (s:ByteArray) (hsz:s.size<=maxLen) (hx:a.eval x= .string s) (hv:a.eval v= .bool true)
 (hK:∀w',MM w' b (n+1) (met++[s.data.toList])->w.grownBy w' (some b)->wpList Tryz.prog ops Q rest (a.put o.dst undef) w'):wpList Tryz.prog ops Q (o::rest) a w:=by
 refine wpList_plain hg λK' h2=>?_;obtain⟨D,h1,h3⟩:=h;obtain⟨w',h0,r1,r2⟩:=h1.update keyed_str Tryz.underlying211 (by simp only[maxLen];omega) (key_str s hsz) (plainElem_bool Tryz.underlying4 true);unfold Oper.wp;simp[execOp,hop,hm,hx,hv,h0,Result.andThen];exact h2 _ _ (hK w' ⟨_,r1,MD_put h3 _⟩ r2)
end
end Go.Proofs.YtkpppjhbmnfmkaaGreatDoor.H6
end

section
set_option maxHeartbeats 2000000
set_option maxRecDepth 100000
namespace Go.Proofs.YtkpppjhbmnfmkaaGreatDoor.H6
open Lib (hid)
open Go.RowKit Go.Own Go.Own.Hd Go.Own.Rn
def crlS:ByteArray:=⟨#[0,13,10]⟩
theorem below_range (w:World) (s:ByteArray):Below w.heap.size w (w.iter s 0):=(Below.refl _ _).alloc (Nat.le_refl _) _
theorem rune_err (w:World):Calls Tryz.prog 227 #[.string crlS,.int .i32 65533] w λe w'=>e= .returned (.int .i64 (-1))/\Below w.heap.size w w':=by
 have n0:∀ty (W:World),W.heap[w.heap.size]?=some (.stringIter crlS 0)->(Instr.next (.pointer (some ⟨w.heap.size,0,none⟩)) true ty).run Tryz.prog W= .ok (.tuple #[.bool true,.int .i64 0,.int .i32 0]) (W.iterAt w.heap.size crlS 1):=λty W hW=>Lib.run_next_any_at W w.heap.size crlS 0 ty hW (by decide);have n1:∀ty (W:World),W.heap[w.heap.size]?=some (.stringIter crlS 1)->(Instr.next (.pointer (some ⟨w.heap.size,0,none⟩)) true ty).run Tryz.prog W= .ok (.tuple #[.bool true,.int .i64 1,.int .i32 13]) (W.iterAt w.heap.size crlS 2):=λty W hW=>Lib.run_next_any_at W w.heap.size crlS 1 ty hW (by decide);have n2:∀ty (W:World),W.heap[w.heap.size]?=some (.stringIter crlS 2)->(Instr.next (.pointer (some ⟨w.heap.size,0,none⟩)) true ty).run Tryz.prog W= .ok (.tuple #[.bool true,.int .i64 2,.int .i32 10]) (W.iterAt w.heap.size crlS 3):=λty W hW=>Lib.run_next_any_at W w.heap.size crlS 2 ty hW (by decide);have n3:∀ty (W:World),W.heap[w.heap.size]?=some (.stringIter crlS 3)->(Instr.next (.pointer (some ⟨w.heap.size,0,none⟩)) true ty).run Tryz.prog W= .ok (.tuple #[.bool false]) W:=λty W hW=>Lib.run_next_end_at W w.heap.size crlS 3 ty hW (by decide);have HN:=hid (And.intro n0 (And.intro n1 (And.intro n2 n3)));clear n0 n1 n2 n3;obtain⟨S,hS⟩:∃S,crlS=S:=⟨_,rfl⟩;rw[hS]at HN ⊢;clear hS;go_enter Tryz.func227,Tryz.ntmps227;go_wp2;go_loopg [5,6] 4 (λg _ _ wr=>∃k:Nat,k+g=4/\1<=g/\Hid (wr.heap[w.heap.size]?=some (.stringIter S k)/\Below w.heap.size w wr))
 case atStart=>exact⟨0,rfl,by decide,hid ⟨World.iter_heap _ _ _,below_range _ _⟩⟩
 case round=>
  obtain⟨k,hk,h1,hh⟩:=hrel;have h0:k=0\/k=1\/k=2\/k=3:=by omega
  clear h1;rcases h0 with rfl|rfl|rfl|rfl
  · have hn:=λty=>HN.out.1 ty wr hh.out.1
    have HI:=hid (And.intro (Lib.iterAt_heap wr w.heap.size S 0 1 hh.out.1) (Lib.below_iterAt hh.out.2 (Nat.le_refl _) S 1));go_wp2;go_roundg 3
    case measure=>omega
    case rel=>exact⟨1,rfl,by decide,HI⟩
  · have hn:=λty=>HN.out.2.1 ty wr hh.out.1
    have HI:=hid (And.intro (Lib.iterAt_heap wr w.heap.size S 1 2 hh.out.1) (Lib.below_iterAt hh.out.2 (Nat.le_refl _) S 2));go_wp2;go_roundg 2
    case measure=>omega
    case rel=>exact⟨2,rfl,by decide,HI⟩
  · have hn:=λty=>HN.out.2.2.1 ty wr hh.out.1
    have HI:=hid (And.intro (Lib.iterAt_heap wr w.heap.size S 2 3 hh.out.1) (Lib.below_iterAt hh.out.2 (Nat.le_refl _) S 3));go_wp2;go_roundg 1
    case measure=>omega
    case rel=>exact⟨3,rfl,by decide,HI⟩
  · have hn:=λty=>HN.out.2.2.2 ty wr hh.out.1
    go_wp2;go_ret;exact⟨rfl,hh.out.2⟩
theorem idx_getD (s:ByteArray) (k:Nat) (i:Int) (hi:i=(k:Int)) (hk:k<s.size) (W:World):
 (Instr.index 9 (.string s) (.int .i64 i)).run Tryz.prog W= .ok (.int .u8 ((s.data.toList.getD k 0).toNat:Int)) W:=idx_str Tryz.underlying9 s k i hi hk W
def RunePost (w:World) (e:Ending) (w':World):Prop:=e= .returned (.int .i64 (-1))/\Below w.heap.size w w'
theorem rune_no (r:Int) (w:World) (h1:128<=r) (h2:r<=2147483647):Calls Tryz.prog 227 #[.string crlS,.int .i32 r] w (RunePost w):=by
 by_cases he:r=65533
 · subst he;exact rune_err w
 obtain⟨v,hv⟩:∃v,Lib.validRune r=v:=⟨_,rfl⟩;have h6:=Tryz.utf8_ValidRune r w;rw[hv]at h6;have HV:=hid (h6.mono λe w' h=>(⟨h.1,h.2.symm⟩:e= .returned (.bool v)/\w=w'));have g0:(0:Int)<=r:=by omega
 have g1:(r==65533)=false:=by rw[beq_eq_false_iff_ne];exact he
 clear h6 hv he;rcases v with _|_
 · obtain⟨S,hS⟩:∃S,crlS=S:=⟨_,rfl⟩
   rw[hS];clear hS;go_enter Tryz.func227,Tryz.ntmps227;go_wp2_with ((with_reducible refine HV.out.mono ?_);rintro e w1 ⟨rfl,rfl⟩);go_ret;exact⟨rfl,Below.refl _ _⟩
 · obtain⟨b1,b2,b3⟩:=encode_big r h1
   obtain⟨rs,h7⟩:∃rs,Utf8.encode r=rs:=⟨_,rfl⟩;rw[h7]at b1 b2 b3;have hj:∀W,(convert 21 9 (.int .i32 r)).run Tryz.prog W= .ok (.string rs) W:=λW=>by rw[<-h7];rfl
   obtain⟨n,hn⟩:∃n,rs.size=n:=⟨_,rfl⟩;rw[hn]at b1 b2 b3;have HN:=hid hn;obtain⟨c,hc⟩:∃c,rs.data.toList.getD (n-1) 0=c:=⟨_,rfl⟩;rw[hc]at b3;have h8:=idx_getD rs (n-1) (((n-1:Nat)):Int) rfl (by omega);rw[hc]at h8;have h9:=hid h8;have hb:=hid b3;clear h8 hc h7 b3;have i1:∀W,(Instr.index 9 (.string crlS) (.int .i64 1)).run Tryz.prog W= .ok (.int .u8 13) W:=λW=>idx_getD crlS 1 1 rfl (by decide) W;have i2:∀W,(Instr.index 9 (.string crlS) (.int .i64 2)).run Tryz.prog W= .ok (.int .u8 10) W:=λW=>idx_getD crlS 2 2 rfl (by decide) W;have s2:∀W,(Instr.slice 9 (.string crlS) (some (.int .i64 2)) none none).run Tryz.prog W= .ok (.string ⟨#[10]⟩) W:=λW=>by kernel_rfl
   have s3:∀W,(Instr.slice 9 (.string crlS) (some (.int .i64 3)) none none).run Tryz.prog W= .ok (.string ⟨#[]⟩) W:=λW=>by kernel_rfl
   have hsz:crlS.size=3:=rfl;have HS:=hid (And.intro i1 (And.intro i2 (And.intro s2 s3)));have HZ:=hid hsz;clear i1 i2 s2 s3 hsz;obtain⟨S,hS⟩:∃S,crlS=S:=⟨_,rfl⟩;rw[hS]at HS HZ ⊢;clear hS;have hd:∀l:List UInt8,(∀x∈l,x.toNat<128)->Lib.indexByte l c= -1:=by
    intro l hl;have hq:l.contains c=false:=by
     rw[Bool.eq_false_iff];intro hm;have:=hl c (by simpa using hm);have:=hb.out;omega
    have:=Lib.contains_iff_indexByte l c;rw[hq]at this;have h0:=of_decide_eq_false this.symm;have h1:=Lib.indexByte_ge l c;omega
   have hs:∀W,Hid (Calls Tryz.prog 249 #[.string ⟨#[10]⟩,.int .u8 (c.toNat:Int)] W λe w'=>e= .returned (.int .i64 (-1))/\w'=W):=λW=>hid ((Tryz.strings_IndexByte ⟨#[10]⟩ (c.toNat:Int) W).mono λe w' h=>⟨by
    rw[h.1];have:((c.toNat:Int)).toNat.toUInt8=c:=by simp
    rw[this,hd _ (by simp)],h.2⟩)
   have ht:∀W,Hid (Calls Tryz.prog 249 #[.string ⟨#[]⟩,.int .u8 (c.toNat:Int)] W λe w'=>e= .returned (.int .i64 (-1))/\w'=W):=λW=>hid ((Tryz.strings_IndexByte ⟨#[]⟩ (c.toNat:Int) W).mono λe w' h=>⟨by
    rw[h.1];have:((c.toNat:Int)).toNat.toUInt8=c:=by simp
    rw[this,hd _ (by simp)],h.2⟩)
   have hk:((13:Int) != (c.toNat:Int))=true:=by rw[bne_iff_ne];have:=hb.out;omega
   have ho:((10:Int) != (c.toNat:Int))=true:=by rw[bne_iff_ne];have:=hb.out;omega
   clear hd;have n234:n=2\/n=3\/n=4:=by omega
   clear b1 b2;obtain⟨h1,h2,h3,h4⟩:=HS.out;have hz:=HZ.out;have hn:=HN.out;rcases n234 with rfl|rfl|rfl
   · have hi:∀W,(Instr.index 9 (.string rs) (.int .i64 1)).run Tryz.prog W= .ok (.int .u8 (c.toNat:Int)) W:=λW=>h9.out W
     go_enter Tryz.func227,Tryz.ntmps227;go_wp2_with ((with_reducible refine HV.out.mono ?_);rintro e w1 ⟨rfl,rfl⟩);go_step3;go_wp2;refine wp_loop_rounds 1 ?_;rw[rounds_succ];go_wp2;go_step3;go_wp2;go_quiet (fail);have h5:=bdN (Below.refl w.heap.size w) nq;generalize w.drewN nq=W1 at h5 ⊢;have hf:=hid h5;clear h5;go_wp2;go_quiet ((exact Calls.quiet_of_same (hs _).out));have hh:=hid (bdN hf.out nq);go_wp2;simp only[Exit.noGoto,Exit.inBlock,Exit.then];go_ret;exact⟨rfl,hh.out⟩
   · have hi:∀W,(Instr.index 9 (.string rs) (.int .i64 2)).run Tryz.prog W= .ok (.int .u8 (c.toNat:Int)) W:=λW=>h9.out W
     go_enter Tryz.func227,Tryz.ntmps227;go_wp2_with ((with_reducible refine HV.out.mono ?_);rintro e w1 ⟨rfl,rfl⟩);go_step3;go_wp2;refine wp_loop_rounds 1 ?_;rw[rounds_succ];go_wp2;go_step3;go_wp2;go_quiet (fail);have h5:=bdN (Below.refl w.heap.size w) nq;generalize w.drewN nq=W1 at h5 ⊢;have hf:=hid h5;clear h5;go_wp2;go_quiet ((exact Calls.quiet_of_same (ht _).out));have hh:=hid (bdN hf.out nq);go_wp2;simp only[Exit.noGoto,Exit.inBlock,Exit.then];go_ret;exact⟨rfl,hh.out⟩
   · have hi:∀W,(Instr.index 9 (.string rs) (.int .i64 3)).run Tryz.prog W= .ok (.int .u8 (c.toNat:Int)) W:=λW=>h9.out W
     go_enter Tryz.func227,Tryz.ntmps227;go_wp2_with ((with_reducible refine HV.out.mono ?_);rintro e w1 ⟨rfl,rfl⟩);go_step3;go_wp2;refine wp_loop_rounds 1 ?_;rw[rounds_succ];go_wp2
     (try simp only[Exit.noGoto,Exit.inBlock,Exit.then])
     go_ret;exact⟨rfl,Below.refl _ _⟩
theorem rune_plain (x:UInt8) (w:World) (h:x.toNat<128):Calls Tryz.prog 227 #[.string crlS,.int .i32 (x.toNat:Int)] w λe w'=>e= .returned (.int .i64 (Lib.indexByte crlS.data.toList x))/\w=w':=by
 have hc:=Tryz.strings_IndexByte crlS (x.toNat:Int) w;have e:((x.toNat:Int)).toNat.toUInt8=x:=by simp
 rw[e]at hc;have HC:=hid (hc.mono λe w' h=>(⟨h.1,h.2.symm⟩:e= .returned (.int .i64 (Lib.indexByte crlS.data.toList x))/\w=w'));have hw:∀W,(convert 21 5 (.int .i32 (x.toNat:Int))).run Tryz.prog W= .ok (.int .u8 (x.toNat:Int)) W:=λW=>by
  have hx:=x.toNat_lt;have e2:IntKind.u8.wrap (x.toNat:Int)=(x.toNat:Int):=by
   show((x.toNat:Int)) % 256=_;omega
  simp[convert,go_sem,Tryz.underlying21,Tryz.underlying5,e2]
 clear hc e;obtain⟨i,hi⟩:∃i,Lib.indexByte crlS.data.toList x=i:=⟨_,rfl⟩;rw[hi]at HC ⊢;clear hi;obtain⟨S,hS⟩:∃S,crlS=S:=⟨_,rfl⟩;rw[hS]at HC ⊢;clear hS;obtain⟨n,hn⟩:∃n,x.toNat=n:=⟨_,rfl⟩;rw[hn]at HC hw h ⊢;clear hn;have h0:(0:Int)<=(n:Int):=by omega
 have h1:(n:Int)<128:=by omega
 go_enter Tryz.func227,Tryz.ntmps227;go_wp2_with ((with_reducible refine HC.out.mono ?_);rintro e w1 ⟨rfl,rfl⟩);go_ret;exact⟨rfl,rfl⟩
def AnyPost (v:Int) (w:World) (e:Ending) (w':World):Prop:=e= .returned (.int .i64 v)/\Below w.heap.size w w'
theorem indexAny_short (s:ByteArray) (w:World) (h8:s.size<=8):Calls Tryz.prog 210 #[.string s,.string crlS] w (AnyPost (Lib.indexAny s.data.toList crl) w):=by
 have hc:crlS.toList.isEmpty=false:=by rw[Lib.toList_data];rfl
 have hsz:crlS.size=3:=rfl;have HR:=hid (λr w h1 h2=>rune_no r w h1 h2);have HP:=hid (λx w h=>rune_plain x w h);have h6:=Tryz.strings_shouldUseASCIISet (s.size:Int) w;have hk:decide ((8:Int)<(s.size:Int))=false:=decide_eq_false (by omega);rw[hk]at h6;have ho:=hid (h6.mono λe w' h=>(⟨h.1,h.2.symm⟩:e= .returned (.bool false)/\w=w'));clear h6 hk h8;have hf:=hid (λx=>Lib.contains_iff_indexByte crl x);have h3:crlS.data.toList=crl:=rfl;rw[h3]at HP;clear h3;obtain⟨S,hS⟩:∃S,crlS=S:=⟨_,rfl⟩;rw[hS]at hc hsz HR HP ⊢;clear hS;go_enter Tryz.func210,Tryz.ntmps210;go_wp2_with ((with_reducible refine ho.out.mono ?_);rintro e w1 ⟨rfl,rfl⟩);go_loopg [9,10] s.size (λg _ _ wx=>∃i:Nat,i+g=s.size/\Hid (wx.heap[w.heap.size]?=some (.stringIter s i)/\Below w.heap.size w wx/\Lib.NoAny s.data.toList crl i))
 case atStart=>exact⟨0,by omega,hid ⟨World.iter_heap _ _ _,below_range _ _,Lib.NoAny.zero _ _⟩⟩
 case round=>
  obtain⟨i,ht,hh⟩:=hrel;by_cases hi:i<s.size
  · have hd:=decode_any s i hi
    have h4:=λty=>Lib.run_next_any_at (P:=Tryz.prog) wr w.heap.size s i ty hh.out.1 hi;obtain⟨r,k,h7⟩:∃r k,Utf8.decode s i=(r,k):=⟨_,_,rfl⟩;rw[h7]at hd h4;simp only at hd h4;have HI:=hid (And.intro (Lib.iterAt_heap wr w.heap.size s i (i+k) hh.out.1) (Lib.below_iterAt hh.out.2.1 (Nat.le_refl _) s (i+k)));generalize wr.iterAt w.heap.size s (i+k)=W1 at h4 HI;rcases hd with⟨hx,he⟩|⟨d1,d2,d3,d4,d5⟩
    · obtain⟨x,h9⟩:∃x,s.data.toList.getD i 0=x:=⟨_,rfl⟩
      rw[h9]at hx he;injection he with hq hs
      subst hq hs;have hl:s.data.toList[i]?=some x:=by
       have:i<s.data.toList.length:=by rw[<-Lib.size_eq];exact hi
       rw[<-h9,List.getD,List.getElem?_eq_getElem this];rfl
      have HX:=hid hl;have hp:=HP.out x W1 hx;have h0:=hf.out x;obtain⟨iv,hm⟩:∃iv,Lib.indexByte crl x=iv:=⟨_,rfl⟩;rw[hm]at hp h0;have h5:=hid hp;obtain⟨cb,hb⟩:∃cb,crl.contains x=cb:=⟨_,rfl⟩;rw[hb]at h0;have hn:=hid hb;clear hp hm hb hl h9 hx h7;rcases cb with _|_
      · have hu:¬((0:Int)<=iv):=of_decide_eq_false h0.symm
        clear h0;go_wp2_with ((with_reducible refine h5.out.mono ?_);rintro e w2 ⟨rfl,rfl⟩);go_roundg (s.size-(i+1))
        case measure=>omega
        case rel=>exact⟨i+1,by omega,hid ⟨HI.out.1,HI.out.2,hh.out.2.2.succ HX.out hn.out⟩⟩
      · have hw:(0:Int)<=iv:=of_decide_eq_true h0.symm
        clear h0;go_wp2_with ((with_reducible refine h5.out.mono ?_);rintro e w2 ⟨rfl,rfl⟩);go_ret;exact⟨by rw[Lib.indexAny_hit hh.out.2.2 HX.out hn.out];rfl,HI.out.2⟩
    · have h5:=hid (HR.out (r:Int) W1 (by omega) (by omega))
      have HN:=hid (noAny_more hh.out.2.2 k λj hj _=>d5 j hj);clear h7 d1 d2 d5;have hA:¬((0:Int)<= -1):=by omega
      go_wp2_with ((with_reducible refine h5.out.mono ?_);rintro e w2 ⟨rfl,g2⟩;have G2:=hid g2;clear g2);go_roundg (s.size-(i+k))
      case measure=>omega
      case rel=>exact⟨i+k,by omega,hid ⟨(G2.out.block _ (Array.getElem?_eq_some_iff.1 HI.out.1).1).trans HI.out.1,HI.out.2.trans (G2.out.mono HI.out.2.size),HN.out⟩⟩
  · have h4:=λty=>Lib.run_next_end_at (P:=Tryz.prog) wr w.heap.size s i ty hh.out.1 hi
    obtain rfl:i=s.size:=by omega
    go_wp2;go_ret;exact⟨by rw[Lib.indexAny_none (by rw[<-Lib.size_eq];exact hh.out.2.2)];rfl,hh.out.2.1⟩
theorem containsAny3 (s:ByteArray) (w:World) (hs:s.size<=1000000000):Calls Tryz.prog 167 #[.string s,.string crlS] w λe w'=>e= .returned (.bool (Lib.containsAny s.data.toList crl))/\Below w.heap.size w w':=by
 have hc:Calls Tryz.prog 210 #[.string s,.string crlS] w (AnyPost (Lib.indexAny s.data.toList crl) w):=by
  by_cases h8:s.size<=8
  · exact indexAny_short s w h8
  · refine(Tryz.strings_IndexAny_long (λw=>by kernel_rfl) s crlS w (by decide) (by omega) (by omega) (by decide) (λj b hb=>by
     rcases j with _|_|_|j<;>simp[crlS]at hb<;>subst hb<;>decide)).mono ?_
    rintro e w1 ⟨h1,h2⟩;refine⟨h1,?_⟩;rw[h2];exact((Below.refl _ _).alloc (Nat.le_refl _) _).alloc (by simp) _
 have HC:=hid hc;clear hc;obtain⟨v,hv⟩:∃v,Lib.indexAny s.data.toList crl=v:=⟨_,rfl⟩;have hb:Lib.containsAny s.data.toList crl=decide (0<=v):=by rw[<-hv];rfl
 rw[hb];rw[hv]at HC;clear hb hv;obtain⟨S,hS⟩:∃S,crlS=S:=⟨_,rfl⟩;rw[hS]at HC ⊢;clear hS;go_enter Tryz.func167,Tryz.ntmps167;go_wp2_with ((with_reducible refine HC.out.mono ?_);rintro e w1 ⟨rfl,g1⟩;have G1:=hid g1;clear g1);go_ret;exact⟨rfl,G1.out⟩
end Go.Proofs.YtkpppjhbmnfmkaaGreatDoor.H6
end

section
set_option maxHeartbeats 1000000
set_option maxRecDepth 100000
namespace Go.Proofs.YtkpppjhbmnfmkaaGreatDoor.H6
open Lib (hid)
open Go.RowKit Go.Own Go.Own.Hd Go.Own.Rn
def BelPost (v:Bool) (w:World) (e:Ending) (w':World):Prop:=e= .returned (.bool v)/\Below w.heap.size w w'
theorem value_any (s:ByteArray) (w:World) (hs:s.size<=1000000000):Calls Tryz.prog 132 #[.string s] w (BelPost (valueB s.data.toList) w):=by
 have hc:Calls Tryz.prog 167 #[.string s,.string ⟨#[0,13,10]⟩] w λe w'=>e= .returned (.bool (Lib.containsAny s.data.toList crl))/\Below w.heap.size w w':=containsAny3 s w hs;obtain⟨cb,h3⟩:∃cb,Lib.containsAny s.data.toList crl=cb:=⟨_,rfl⟩;rw[h3]at hc;have HC:=hid hc;have hV:valueB s.data.toList=(!cb&&(s.data.toList.isEmpty||(!blankB (s.data.toList.getD 0 0)&& !blankB (s.data.toList.getD (s.data.toList.length-1) 0)))):=by rw[<-h3];rfl
 have HV:=hid hV;clear hc h3 hV;by_cases h0:s.size=0
 · have h1:s.toList.isEmpty=true:=by rw[Lib.toList_data];have:=Lib.size_eq s;rw[h0]at this;rw[List.isEmpty_iff];exact List.length_eq_zero_iff.1 this.symm
   have h2:=hid (show valueB s.data.toList= !cb by rw[HV.out];rw[Lib.toList_data]at h1;rw[h1];simp);rcases cb with _|_
   all_goals
    go_enter Tryz.func132,Tryz.ntmps132;go_wp2_with ((with_reducible refine HC.out.mono ?_);rintro e w1 ⟨rfl,g1⟩;have G1:=hid g1;clear g1);go_ret;exact⟨by rw[h2.out];rfl,G1.out⟩
 · have h1:s.toList.isEmpty=false:=by
    rw[Lib.toList_data];cases h:s.data.toList with
    |nil=>have:=Lib.size_eq s;rw[h]at this;exact absurd this h0
    |cons _ _=>rfl
   have i0:=idx_getD s 0 0 rfl (by omega);have i1:=idx_getD s (s.size-1) ((s.size:Int)-1) (by omega) (by omega);obtain⟨x,hx⟩:∃x,s.data.toList.getD 0 0=x:=⟨_,rfl⟩;obtain⟨y,hy⟩:∃y,s.data.toList.getD (s.size-1) 0=y:=⟨_,rfl⟩;rw[hx]at i0;rw[hy]at i1;have h2:=hid (show valueB s.data.toList=(!cb&&(!blankB x&& !blankB y))by rw[HV.out,hx,<-Lib.size_eq,hy];rw[Lib.toList_data]at h1;rw[h1];simp);have c0:=λW=>blank_any x (x.toNat:Int) rfl W;have c1:=λW=>blank_any y (y.toNat:Int) rfl W;obtain⟨xi,h4⟩:∃xi:Int,(x.toNat:Int)=xi:=⟨_,rfl⟩;obtain⟨yi,h5⟩:∃yi:Int,(y.toNat:Int)=yi:=⟨_,rfl⟩;rw[h4]at i0 c0;rw[h5]at i1 c1;obtain⟨bx,h6⟩:∃b,blankB x=b:=⟨_,rfl⟩;obtain⟨b2,h7⟩:∃b,blankB y=b:=⟨_,rfl⟩;rw[h6]at c0 h2;rw[h7]at c1 h2;have H0:=hid c0;have H1:=hid c1;have h8:(1:Int)<=(s.size:Int):=by omega
   clear c0 c1 h6 h7 h4 h5 hx hy HV h0;rcases cb with _|_
   · rcases bx with _|_
     all_goals rcases b2 with _|_
     all_goals
      go_enter Tryz.func132,Tryz.ntmps132;go_wp2_with (first
       |((with_reducible refine HC.out.mono ?_);rintro e w1 ⟨rfl,g1⟩;have G1:=hid g1;clear g1)
       |((with_reducible refine(H0.out _).mono ?_);rintro e w2 ⟨rfl,rfl⟩)
       |((with_reducible refine(H1.out _).mono ?_);rintro e w2 ⟨rfl,rfl⟩))
      go_ret;exact⟨by rw[h2.out];rfl,G1.out⟩
   · go_enter Tryz.func132,Tryz.ntmps132
     go_wp2_with ((with_reducible refine HC.out.mono ?_);rintro e w1 ⟨rfl,g1⟩;have G1:=hid g1;clear g1);go_ret;exact⟨by rw[h2.out];rfl,G1.out⟩
end Go.Proofs.YtkpppjhbmnfmkaaGreatDoor.H6
end

section
set_option maxHeartbeats 2000000
set_option maxRecDepth 100000
namespace Go.Proofs.YtkpppjhbmnfmkaaGreatDoor.H6
open Lib (hid)
open Go.RowKit Go.Own Go.Own.Hd Go.Own.Rn
theorem beq_dec (a b:List UInt8):(a==b)=decide (a=b):=by rw[Bool.eq_iff_iff];simp
def plain6 (b1 b2 b3 b4 b5 b6 b7 b8:Bool):Bool:=if b1||b2||b3||b4||b5 then false else if b6 then b7 else b8
theorem plain_bits (h:HdrV):plainB h=plain6 (h.name.toList==[99,111,110,110,101,99,116,105,111,110]) (h.name.toList==[112,114,111,120,121,45,99,111,110,110,101,99,116,105,111,110]) (h.name.toList==[107,101,101,112,45,97,108,105,118,101])
 (h.name.toList==[116,114,97,110,115,102,101,114,45,101,110,99,111,100,105,110,103]) (h.name.toList==[117,112,103,114,97,100,101]) (h.name.toList==[116,101]) (h.value.toList==[116,114,97,105,108,101,114,115]) (nameB (tx h.name)&&valueB (tx h.value)):=by
 simp only[beq_dec,Lib.toList_data,plain6,plainB,tx,conn,pconn,keepa,trenc,upgr,te,trails,Bool.or_eq_true,decide_eq_true_eq,List.cons_append,List.nil_append,or_assoc]
 split
 · rename_i h1
   exact if_pos h1
 · rename_i h1
   exact if_neg h1
theorem plain_any (h:HdrV) (w:World) {e1 e2 e3:Addr} (he:EnvH w e1 e2 e3) (hn:h.name.size<=1000000000) (hv:h.value.size<=1000000000):
 Calls Tryz.prog 169 #[.agg #[.string h.name,.string h.value,.bool h.never]] w (BelPost (plainB h) w):=by
 have HP:=hid (plain_bits h);obtain⟨n,v,nv⟩:=h;simp only at HP hn hv ⊢;have HN:=hid (λW (hb:Below w.heap.size w W)=>name_any n W (he.below hb he.room) hn);have h3:=hid (λW=>value_any v W hv);clear he hn hv;obtain⟨nb,h1⟩:∃b,nameB n.data.toList=b:=⟨_,rfl⟩;obtain⟨vb,h2⟩:∃b,valueB v.data.toList=b:=⟨_,rfl⟩;rw[h2]at h3;have h0:=hid (show plainB ⟨n,v,nv⟩=plain6 (n.toList==[99,111,110,110,101,99,116,105,111,110]) (n.toList==[112,114,111,120,121,45,99,111,110,110,101,99,116,105,111,110]) (n.toList==[107,101,101,112,45,97,108,105,118,101])
  (n.toList==[116,114,97,110,115,102,101,114,45,101,110,99,111,100,105,110,103]) (n.toList==[117,112,103,114,97,100,101]) (n.toList==[116,101]) (v.toList==[116,114,97,105,108,101,114,115]) (nb&&vb)by rw[<-h1,<-h2];exact HP.out)
 have h4:=hid (λW (hb:Below w.heap.size w W)=>(show Calls Tryz.prog 211 #[.string n] W λe w'=>e= .returned (.bool nb)/\W=w' from by
  have:=HN.out W hb;unfold NamePost at this;rw[h1]at this;exact this))
 clear HP HN h1 h2;obtain⟨pb,h5⟩:∃pb,plainB ⟨n,v,nv⟩=pb:=⟨_,rfl⟩;rw[h5]at h0 ⊢;clear h5;obtain⟨b1,h6⟩:∃b,(n.toList==[99,111,110,110,101,99,116,105,111,110])=b:=⟨_,rfl⟩;obtain⟨b2,h7⟩:∃b,(n.toList==[112,114,111,120,121,45,99,111,110,110,101,99,116,105,111,110])=b:=⟨_,rfl⟩;obtain⟨b3,h8⟩:∃b,(n.toList==[107,101,101,112,45,97,108,105,118,101])=b:=⟨_,rfl⟩;obtain⟨b4,h9⟩:∃b,(n.toList==[116,114,97,110,115,102,101,114,45,101,110,99,111,100,105,110,103])=b:=⟨_,rfl⟩;obtain⟨b5,hc⟩:∃b,(n.toList==[117,112,103,114,97,100,101])=b:=⟨_,rfl⟩;obtain⟨b6,hd⟩:∃b,(n.toList==[116,101])=b:=⟨_,rfl⟩;obtain⟨b7,hf⟩:∃b,(v.toList==[116,114,97,105,108,101,114,115])=b:=⟨_,rfl⟩;rw[h6,h7,h8,h9,hc,hd,hf]at h0;have g0:Below w.heap.size w (w.alloc (.cells #[.string n,.string v,.bool nv] 63)):=(Below.refl _ _).alloc (Nat.le_refl _) _;have G0:=hid g0;clear g0;rcases b1 with _|_
 · rcases b2 with _|_
   · rcases b3 with _|_
     · rcases b4 with _|_
       · rcases b5 with _|_
         · rcases b6 with _|_
           · rcases nb with _|_
             · go_enter Tryz.func169,Tryz.ntmps169
               go_wp2_with ((with_reducible refine(h4.out _ G0.out).mono ?_);rintro e w1 ⟨rfl,rfl⟩);go_ret;exact⟨by rw[h0.out];rfl,G0.out⟩
             · go_enter Tryz.func169,Tryz.ntmps169
               go_wp2_with (first
                |((with_reducible refine(h4.out _ G0.out).mono ?_);rintro e w1 ⟨rfl,rfl⟩)
                |((with_reducible refine(h3.out _).mono ?_);rintro e w1 ⟨rfl,g1⟩;have G1:=hid g1;clear g1))
               go_ret;exact⟨by rw[h0.out];rfl,G0.out.trans (G1.out.mono G0.out.size)⟩
           · go_enter Tryz.func169,Tryz.ntmps169
             go_wp2;go_ret;exact⟨by rw[h0.out];rfl,G0.out⟩
         all_goals
          go_enter Tryz.func169,Tryz.ntmps169;go_wp2;go_ret;exact⟨by rw[h0.out];rfl,G0.out⟩
       all_goals
        go_enter Tryz.func169,Tryz.ntmps169;go_wp2;go_ret;exact⟨by rw[h0.out];rfl,G0.out⟩
     all_goals
      go_enter Tryz.func169,Tryz.ntmps169;go_wp2;go_ret;exact⟨by rw[h0.out];rfl,G0.out⟩
   all_goals
    go_enter Tryz.func169,Tryz.ntmps169;go_wp2;go_ret;exact⟨by rw[h0.out];rfl,G0.out⟩
 all_goals
  go_enter Tryz.func169,Tryz.ntmps169;go_wp2;go_ret;exact⟨by rw[h0.out];rfl,G0.out⟩
def errH (e1:Addr):Value:=.iface 327 (.pointer (some e1))
def ErrPost (ok:Bool) (e1:Addr) (w:World) (e:Ending) (w':World):Prop:=e= .returned (bif ok then .nilIface else errH e1)/\Below w.heap.size w w'
def Szs (l:List HdrV):Prop:=∀h∈l,h.name.size<=1000000000/\h.value.size<=1000000000
theorem Szs.at_ {l:List HdrV} (h:Szs l) (k:Nat):(l.getD k ⟨⟨#[]⟩,⟨#[]⟩,false⟩).name.size<=1000000000/\(l.getD k ⟨⟨#[]⟩,⟨#[]⟩,false⟩).value.size<=1000000000:=by
 rw[List.getD];rcases hk:l[k]? with _|x
 · exact⟨by decide,by decide⟩
 · exact h x (List.mem_of_getElem? hk)
theorem all_take_more {α:Type} (l:List α) (d:α) (p:α->Bool) (k:Nat) (hk:k<l.length) (h:(l.take k).all p=true) (hp:p (l.getD k d)=true):(l.take (k+1)).all p=true:=by
 rw[List.take_succ_eq_append_getElem hk,List.all_append,h];have:l.getD k d=l[k]:=by simp[List.getD,hk]
 rw[<-this];simp only[List.all_cons,List.all_nil,hp,Bool.and_true,Bool.true_and]
theorem all_not_at {α:Type} (l:List α) (d:α) (p:α->Bool) (k:Nat) (hk:k<l.length) (hp:p (l.getD k d)=false):l.all p=false:=by
 rw[Bool.eq_false_iff];intro h;have:=List.all_eq_true.1 h (l[k]) (List.getElem_mem hk);have e:l.getD k d=l[k]:=by simp[List.getD,hk]
 rw[e]at hp;rw[hp]at this;cases this
theorem trailers_any (A:Option Addr) (n c:Nat) (l:List HdrV) (w:World) {e1 e2 e3:Addr} (he:EnvH w e1 e2 e3) (hn:n<=1000000000) (h1:Hr w A n l) (hz:Szs l):
 Calls Tryz.prog 133 #[.slice A n c] w (ErrPost (l.all plainB) e1 w):=by
 have H1:=hid h1;have HE:=hid he;have HZ:=hid hz;have HL:=hid h1.1;clear h1 he hz;go_enter Tryz.func133,Tryz.ntmps133;go_wp2;go_loopw [7] (λi wr=>∃k:Nat,k<=n/\i= .int .i64 (k:Int)/\Hid (Below w.heap.size w wr/\(l.take k).all plainB=true)) (λi _=>n-(intOf i).toNat)
 case atStart=>exact⟨0,by omega,rfl,hid ⟨Below.refl _ _,by simp⟩⟩
 case round=>
  obtain⟨k,hk,rfl,hh⟩:=hrel;by_cases h2:k<n
  · obtain⟨ad,rfl,a0,a1,a2⟩:=(H1.out.below hh.out.1).at_ h2
    obtain⟨s1,s2⟩:=HZ.out.at_ k;have h3:=HL.out;obtain⟨x,hx⟩:∃x,l.getD k ⟨⟨#[]⟩,⟨#[]⟩,false⟩=x:=⟨_,rfl⟩;rw[hx]at a0 a1 a2 s1 s2;have HP:=hid (λW (hb:Below w.heap.size w W)=>plain_any x W (HE.out.below hb HE.out.room) s1 s2);obtain⟨b,hb⟩:∃b,plainB x=b:=⟨_,rfl⟩;rw[hb]at HP;rw[<-hx]at hb;have h4:=hid hb;obtain⟨xn,xv,xb⟩:=x;simp only at a0 a1 a2 HP;clear hx hb s1 s2;have i0:(0:Int)<=(k:Int):=by omega
    have i1:(k:Int)<(n:Int):=by omega
    have h6:=((hh.out.1.alloc hh.out.1.size (.cells #[.string ⟨#[]⟩,.string ⟨#[]⟩,.bool false] 63)));have h0:=hid (hh.out.1.alloc hh.out.1.size (.cells #[.string xn,.string xv,.bool xb] 63));clear h6;rcases b with _|_
    · have HF:=hid (all_not_at l _ plainB k (by omega) h4.out)
      clear h3;have hcell:=HE.out.head;have h5:wr.cell? ⟨0,0,none⟩=some (.iface 327 (.pointer (some e1))):=((HE.out.below hh.out.1 HE.out.room).head);clear hcell h5;go_wp2_with ((with_reducible refine(HP.out _ h0.out).mono ?_);rintro e w2 ⟨rfl,g1⟩;have G1:=hid (h0.out.trans (g1.mono h0.out.size));clear g1;have h5:=(HE.out.below G1.out HE.out.room).head);go_ret;exact⟨by rw[HF.out];rfl,G1.out⟩
    · have HN:=hid (all_take_more l _ plainB k (by omega) hh.out.2 h4.out)
      clear h3;go_wp2_with ((with_reducible refine(HP.out _ h0.out).mono ?_);rintro e w2 ⟨rfl,g1⟩;have G1:=hid (h0.out.trans (g1.mono h0.out.size));clear g1);go_roundw
      case rel=>exact⟨k+1,h2,by go_num,hid ⟨G1.out,HN.out⟩⟩
      case measure=>simp[intOf];omega
  · obtain rfl:k=n:=by omega
    go_wp2;go_ret;refine⟨?_,hh.out.1⟩;have:=hh.out.2;rw[List.take_of_length_le (by rw[HL.out];exact Nat.le_refl _)]at this;rw[this]
    rfl
end Go.Proofs.YtkpppjhbmnfmkaaGreatDoor.H6
end

section
set_option maxRecDepth 100000
namespace Go.Own.Hd
variable {σ:Type}
def nmOf (h:HdrV):List UInt8:=tx h.name
def preN (rs:List (RuleF σ)):List HdrV->List (List UInt8)->σ->Option σ
 |[],_,s=>some s
 |h::t,met,s=>match step rs h met s with
  |none=>none
  |some s'=>preN rs t (met++[tx h.name]) s'
variable {rs:List (RuleF σ)}
theorem preP_eq:∀(p:List HdrV) (met:List (List UInt8)) (s:σ),preP rs p met s=match preN rs p met s with|none=>none|some s'=>if musts rs (met++p.map nmOf)then some s' else none
 |[],met,s=>by simp[preP,preN]
 |h::t,met,s=>by
  simp only[preP,preN];cases step rs h met s with
  |none=>rfl
  |some s'=>simp only;rw[preP_eq t];simp[nmOf]
theorem preN_snoc:∀(p:List HdrV) (h:HdrV) (met:List (List UInt8)) (s s':σ),preN rs p met s=some s'->preN rs (p++[h]) met s=step rs h (met++p.map nmOf) s'
 |[],h,met,s,s',hp=>by
  simp only[preN,Option.some.injEq]at hp;subst hp;simp only[List.nil_append,preN,List.map_nil,List.append_nil];cases step rs h met s<;>rfl
 |x::t,h,met,s,s',hp=>by
  simp only[preN]at hp;simp only[List.cons_append,preN];cases hx:step rs x met s with
  |none=>rw[hx]at hp;cases hp
  |some s1=>
   rw[hx]at hp;simp only at hp ⊢;rw[preN_snoc t h _ s1 s' hp];simp[nmOf]
theorem preN_none:∀(p q:List HdrV) (met:List (List UInt8)) (s:σ),preN rs p met s=none->preN rs (p++q) met s=none
 |[],q,met,s,hp=>by simp[preN]at hp
 |x::t,q,met,s,hp=>by
  simp only[preN]at hp;simp only[List.cons_append,preN];cases hx:step rs x met s with
  |none=>rfl
  |some s1=>rw[hx]at hp;exact preN_none t q _ s1 hp
theorem take_while_all {l:List HdrV} {k:Nat} (hk:k<=l.length) (h:(l.take k).all colonB=true) (hs:k=l.length\/colonB (l.getD k ⟨⟨#[]⟩,⟨#[]⟩,false⟩)=false):l.takeWhile colonB=l.take k/\l.dropWhile colonB=l.drop k:=by
 have e:l=l.take k++l.drop k:=(List.take_append_drop k l).symm;have key:∀(p q:List HdrV),p.all colonB=true->(q=[]\/∃x t,q=x::t/\colonB x=false)->(p++q).takeWhile colonB=p/\(p++q).dropWhile colonB=q:=by
  intro p q hp hq
  induction p with
  |nil=>
   rcases hq with rfl|⟨x,t,rfl,hx⟩
   · exact⟨rfl,rfl⟩
   · simp[List.takeWhile_cons,List.dropWhile_cons,hx]
  |cons y p ih=>
   simp at hp;obtain⟨h1,h2⟩:=ih (by simpa using hp.2);simp[hp.1,h1,h2]
 have:=key (l.take k) (l.drop k) h (by
  rcases hs with hs|hs
  · left;rw[hs];exact List.drop_length
  · rcases Nat.lt_or_ge k l.length with h0|h3
    · right
      refine⟨l[k],l.drop (k+1),List.drop_eq_getElem_cons h0,?_⟩
      simpa [List.getD,h0]using hs
    · left;exact List.drop_eq_nil_of_le h3)
 rw[<-e]at this;exact this
theorem open_bad {l:List HdrV} {s:σ} {k:Nat} (hk:k<l.length) (h:(l.take (k+1)).all colonB=true) (hb:preN rs (l.take (k+1)) [] s=none):openS rs l s=none:=by
 have e:l.takeWhile colonB=l.take (k+1)++(l.takeWhile colonB).drop (k+1):=by
  have h1:l.takeWhile colonB=(l.take (k+1)++l.drop (k+1)).takeWhile colonB:=by rw[List.take_append_drop]
  have h2:∀(p q:List HdrV),p.all colonB=true->(p++q).takeWhile colonB=p++q.takeWhile colonB:=by
   intro p q hp
   induction p with
   |nil=>rfl
   |cons y p ih=>simp at hp;simp[List.takeWhile_cons,hp.1,ih (by simpa using hp.2)]
  rw[h2 _ _ h]at h1;rw[h1];rw[List.drop_left' (by rw[List.length_take];omega)]
 unfold openS;rw[preP_eq,e,preN_none _ _ _ _ hb]
theorem open_through {l:List HdrV} {s s':σ} {k:Nat} (hk:k<=l.length) (h:(l.take k).all colonB=true) (hs:k=l.length\/colonB (l.getD k ⟨⟨#[]⟩,⟨#[]⟩,false⟩)=false) (hp:preN rs (l.take k) [] s=some s'):
 openS rs l s=if musts rs ((l.take k).map nmOf)then(if(l.drop k).all plainB then some (l.drop k,s')else none)else none:=by
 obtain⟨h1,h2⟩:=take_while_all hk h hs;unfold openS;rw[preP_eq,h1,h2,hp];simp only[List.nil_append];by_cases hm:musts rs ((l.take k).map nmOf)=true
 · rw[if_pos hm,if_pos hm]
 · rw[if_neg hm,if_neg hm]
end Go.Own.Hd
namespace Go.Proofs.YtkpppjhbmnfmkaaGreatDoor.H6
open Go.RowKit Go.Own Go.Own.Hd Go.Own.Fn Go.WideShapes
attribute [local go_sem ↓] Go.wp_at_zero Go.wp_at_succ
variable {σ:Type}
def boxS (g:Nat) (T:TypeId) (cells:σ->Array Value):Stt σ:=⟨some g,λs w=>Blk w g T (cells s)⟩
def txtL:Lvl ByteArray Bool:=⟨λ_ v x=>v= .string x/\x.size<=1000000000,λ_ v y=>v= .bool y⟩
def isG (g i:Nat):Prop:=i=g
def RF (g:Nat) (T:TypeId) (cells:σ->Array Value) (rs:List (RuleF σ×Value)) (w:World):Prop:=∀r∈rs,Fnc Tryz.prog (boxS g T cells) txtL (isG g) r.2 r.1.take w
theorem prefix_colon (x:HdrV) (w:World):Calls Tryz.prog 92 #[.string x.name,.string ⟨#[58]⟩] w λe w'=>e= .returned (.bool (colonB x))/\w=w':=by
 refine(Tryz.strings_HasPrefix x.name ⟨#[58]⟩ w).mono ?_;rintro e w' ⟨h1,h2⟩;refine⟨?_,h2.symm⟩;rw[h1];have:Lib.hasPrefix x.name.data.toList [58]=colonB x:=by
  unfold colonB tx;cases x.name.data.toList with
  |nil=>rfl
  |cons c t=>
   have:[58].isPrefixOf (c::t)=decide (c=58):=by
    simp[List.isPrefixOf];rw[Bool.eq_iff_iff];simp;exact eq_comm
   simp[Lib.hasPrefix,this]
 rw[show(⟨#[58]⟩:ByteArray).data.toList=[58]from rfl,this]
theorem cut_h {w:World} {A:Option Addr} {n c k:Nat} {l:List HdrV} (h:Hr w A n l) (hk:k<=n) (hc:n<=c):
 ∃A',Hr w A' (n-k) (l.drop k)/\(∀ad',A'=some ad'->∃ad,A=some ad/\ad'.block=ad.block)/\∀W:World,(Instr.slice 41 (.slice A n c) (some (.int .i64 (k:Int))) none none).run Tryz.prog W= .ok (.slice A' (n-k) (c-k)) W:=by
 obtain⟨i,hi,hz,h1,h2⟩:=infoH;refine⟨if c=k then A else A.map λx=>x.add (k*3),?_,?_,λW=>?_⟩
 · refine⟨by rw[List.length_drop,h.1],λj u hu=>?_⟩
   have hd:hcells (l.drop k)=(hcells l).drop (k*3):=by
    have e:hcells l=hcells (l.take k)++hcells (l.drop k):=by rw[<-hcells_append,List.take_append_drop]
    rw[e,List.drop_left' (by rw[hcells_len,List.length_take,h.1];congr 1;omega)]
   rw[hd,List.getElem?_drop]at hu;obtain⟨ad,e,hb,hcell⟩:=h.2 _ _ hu;have h0:=(List.getElem?_eq_some_iff.1 hu).1;rw[hcells_len,h.1]at h0;rw[if_neg (by omega),e];exact⟨_,rfl,by rw[add_block];exact hb,by rw[add_two];exact hcell⟩
 · intro ad' e
   split at e
   · exact⟨ad',e,rfl⟩
   · obtain⟨ad,h1,rfl⟩:=Option.map_eq_some_iff.1 e
     exact⟨ad,h1,add_block _ _⟩
 · simp[Instr.slice,run_underlying Tryz.underlying41,Instr.sliceBounds,run_sliceBound,sizeOf,typeInfo,hi,h1,Result.andThen,show(k:Int)<=n by omega]
theorem Hr.alt {w:World} {A:Option Addr} {n k:Nat} {l:List HdrV} (h:Hr w A n l) (hk:k<n):∀ad,A=some ad->ad.block<w.heap.size:=λad e=>by
 have hl:=h.1;have hc:=(hcells_at l k (by omega)).1;obtain⟨ad',e',hb,_⟩:=h.2 _ _ hc;obtain rfl:=Option.some.inj (e.symm.trans e');exact hb
theorem Hr.grown {w w':World} {A:Option Addr} {n:Nat} {l:List HdrV} {row:Option Nat} (h:Hr w A n l) (hg:w.grownBy w' row) (hA:0<n->∀ad,A=some ad->some ad.block≠row):Hr w' A n l:=
 ⟨h.1,λj u hu=>by
   have h0:0<n:=by have:=(List.getElem?_eq_some_iff.1 hu).1;rw[hcells_len,h.1]at this;omega
   obtain⟨ad,e,h1,h2⟩:=h.2 j u hu;exact⟨ad,e,Nat.lt_of_lt_of_le h1 hg.size,(World.cell?_of_block (hg.block _ (by rw[add_block];exact h1) (by rw[add_block];exact hA h0 ad e))).trans h2⟩⟩
end Go.Proofs.YtkpppjhbmnfmkaaGreatDoor.H6
end

section
namespace Go.Proofs.YtkpppjhbmnfmkaaGreatDoor.H6
open Go.RowKit Go.Own Go.Own.Hd Go.Own.Fn Go.WideShapes
attribute [local go_sem ↓] Go.wp_at_zero Go.wp_at_succ
variable {σ:Type}
structure SpJ (w:World) (g:Nat) (T:TypeId) (cells:σ->Array Value) (rs:List (RuleF σ×Value)) (A:Option Addr) (n:Nat) (l:List HdrV) (mb nb:Nat) (s0:σ) (k:Nat) (s:σ) (wr:World):Prop where
 grown:w.grownBy wr (some g)
 st:Blk wr g T (cells s)
 rules:RM wr mb nb rs
 met:MM wr w.heap.size k ((l.take k).map nmOf)
 hr:Hr wr A n l
 col:(l.take k).all colonB=true
 pre:preN (rs.map (·.1)) (l.take k) [] s0=some s
def SplitPost (g:Nat) (T:TypeId) (cells:σ->Array Value) (w:World) (r:Option (List HdrV×σ)) (e:Ending) (w':World):Prop:=
 w.grownBy w' (some g)/\((r=none/\∃A n c,e= .returned (.tuple #[.slice A n c,.bool false]))\/∃rest s',r=some (rest,s')/\∃A c,e= .returned (.tuple #[.slice A rest.length c,.bool true])/\Hw w' w.heap.size (.slice A rest.length c) rest/\Blk w' g T (cells s'))
theorem find_map (rs:List (RuleF σ×Value)) (nm:List UInt8):(rs.map (·.1)).find? (λr=>r.name==nm)=(rs.find? (λr=>r.1.name==nm)).map (·.1):=by
 rw[List.find?_map];rfl
structure SpC (w:World) (g:Nat) (mb:Nat) (A:Option Addr) (n:Nat):Prop where
 lmb:mb<w.heap.size
 lg:g<w.heap.size
 ne:mb≠g
 g9:20<=g
 a:0<n->∀ad,A=some ad->ad.block≠g
section
variable {w wr W:World} {g:Nat} {T:TypeId} {cells:σ->Array Value} {rs:List (RuleF σ×Value)} {A:Option Addr} {n:Nat} {l:List HdrV} {mb nb:Nat} {s0 s:σ} {k:Nat}
theorem SpJ.more (h:SpJ w g T cells rs A n l mb nb s0 k s wr) (hb:Below wr.heap.size wr W):SpJ w g T cells rs A n l mb nb s0 k s W:=
 have hg:=grown_of_below hb none
 ⟨h.grown.andThen hg (λj e=>by cases e),h.st.below hb h.st.lt,h.rules.kept hg (by simp),h.met.kept hg (by simp),h.hr.below hb,h.col,h.pre⟩
theorem SpJ.start (c:SpC w g mb A n) (hs:Blk w g T (cells s0)) (hm:RM w mb nb rs) (hr:Hr w A n l):SpJ w g T cells rs A n l mb nb s0 0 s0 (w.alloc (.map #[] 0)):=by
 have hb:Below w.heap.size w (w.alloc (.map #[] 0)):=(Below.refl _ _).alloc (Nat.le_refl _) _;exact⟨grown_of_below hb _,hs.below hb c.lg,hm.kept (grown_of_below hb none) (by simp),⟨.map [],World.ownsMap_made _ _ _ _,MD_nil⟩,hr.below hb,rfl,rfl⟩
theorem SpJ.env {e1 e2 e3:Addr} (h:SpJ w g T cells rs A n l mb nb s0 k s wr) (c:SpC w g mb A n) (he:EnvH w e1 e2 e3):EnvH wr e1 e2 e3:=
 he.grown h.grown λj e=>by injection e with e;rw[<-e];exact c.g9
theorem SpJ.turned {s':σ} (h:SpJ w g T cells rs A n l mb nb s0 k s wr) (c:SpC w g mb A n) (hg:wr.grownBy W (some g)) (hs:Blk W g T (cells s')):w.grownBy W (some g)/\Blk W g T (cells s')/\RM W mb nb rs/\MM W w.heap.size k ((l.take k).map nmOf)/\Hr W A n l:=
 ⟨h.grown.andThen hg (λj e=>.inr e),hs,h.rules.kept hg (by simp[c.ne]),h.met.kept hg (λe=>by have:=c.lg;injection e with e;omega),h.hr.grown hg (λhp ad e=>by simp[c.a hp ad e])⟩
theorem SpJ.met1 {s':σ} {W2:World} (h:w.grownBy W (some g)/\Blk W g T (cells s')/\RM W mb nb rs/\MM W w.heap.size k ((l.take k).map nmOf)/\Hr W A n l) (c:SpC w g mb A n) (hk:k<l.length) (hg:W.grownBy W2 (some w.heap.size)) (hA:∀ad,A=some ad->ad.block<w.heap.size)
 (hm:MM W2 w.heap.size (k+1) ((l.take k).map nmOf++[nmOf (l.getD k ⟨⟨#[]⟩,⟨#[]⟩,false⟩)])) (hc:(l.take (k+1)).all colonB=true) (hp:preN (rs.map (·.1)) (l.take (k+1)) [] s0=some s'):SpJ w g T cells rs A n l mb nb s0 (k+1) s' W2:=by
 obtain⟨h1,h2,h3,h4,h5⟩:=h;have h0:=h4.lt;refine⟨h1.andThen hg (λj e=>.inl (by injection e with e;omega)),h2.grown hg (λe=>by have:=c.lg;injection e with e;omega),h3.kept hg (λe=>by have:=c.lmb;injection e with e;omega),?_,h5.grown hg (λ_ ad e e2=>by have:=hA ad e;injection e2 with e2;omega),hc,hp⟩;rw[List.take_succ_eq_append_getElem hk,List.map_append];have:l.getD k ⟨⟨#[]⟩,⟨#[]⟩,false⟩=l[k]:=by simp[List.getD,hk]
 rw[this]at hm;exact hm
theorem sp_s {ad:Addr} {xn xv:ByteArray} {xb rm:Bool} {fv:Value} {B:Nat} (h:SpJ w g T cells rs (some ad) n l mb nb s0 k s W) (hx:l.getD k ⟨⟨#[]⟩,⟨#[]⟩,false⟩=⟨xn,xv,xb⟩) (hk:k<n) (hs:xn.size<=1000000000) (hB:Blk W B 170 #[.bool rm,fv]):
 W.cell? (ad.add (k*3))=some (.string xn)/\W.cell? ⟨(ad.add (k*3)).block,(ad.add (k*3)).off+1,none⟩=some (.string xv)/\W.cell? ⟨B,1,none⟩=some fv/\(Instr.lookup 211 (.map (some w.heap.size)) (.string xn) false).run Tryz.prog W= .ok (.bool (((l.take k).map nmOf).contains xn.data.toList)) W:=by
 obtain⟨ad',e,h0,h1,_⟩:=h.hr.at_ hk;obtain rfl:=Option.some.inj e;rw[hx]at h0 h1;exact⟨h0,h1,hB.cell 1,run_met h.met xn (by simp only[maxLen];omega)⟩
theorem sp_t {ad:Addr} {xn xv:ByteArray} {xb rm:Bool} {fv:Value} {B:Nat} {s':σ} (h:w.grownBy W (some g)/\Blk W g T (cells s')/\RM W mb nb rs/\MM W w.heap.size k ((l.take k).map nmOf)/\Hr W (some ad) n l) (_c:SpC w g mb (some ad) n) (hx:l.getD k ⟨⟨#[]⟩,⟨#[]⟩,false⟩=⟨xn,xv,xb⟩) (hk:k<n) (hs:xn.size<=1000000000) (hB:Blk W B 170 #[.bool rm,fv]):
 W.cell? (ad.add (k*3))=some (.string xn)/\W.cell? ⟨(ad.add (k*3)).block,(ad.add (k*3)).off+1,none⟩=some (.string xv)/\W.cell? ⟨B,1,none⟩=some fv/\(Instr.lookup 211 (.map (some w.heap.size)) (.string xn) false).run Tryz.prog W= .ok (.bool (((l.take k).map nmOf).contains xn.data.toList)) W:=by
 obtain⟨_,_,_,hm,hr⟩:=h;obtain⟨ad',e,h0,h1,_⟩:=hr.at_ hk;obtain rfl:=Option.some.inj e;rw[hx]at h0 h1;exact⟨h0,h1,hB.cell 1,run_met hm xn (by simp only[maxLen];omega)⟩
end
theorem SpJ.other {w wr W:World} {g:Nat} {T:TypeId} {cells:σ->Array Value} {rs:List (RuleF σ×Value)} {A:Option Addr} {n:Nat} {l:List HdrV} {mb nb:Nat} {s0 s:σ} {k R:Nat} (h:SpJ w g T cells rs A n l mb nb s0 k s wr) (c:SpC w g mb A n) (hr:Hr w A n l) (hg:wr.grownBy W (some R)) (hR:w.heap.size<R):SpJ w g T cells rs A n l mb nb s0 k s W:=by
 have h1:=h.grown.andThen hg (λj e=>.inl (by injection e with e;omega));exact⟨h1,h.st.grown hg (λe=>by have:=c.lg;injection e with e;omega),h.rules.kept hg (λe=>by have:=c.lmb;injection e with e;omega),h.met.kept hg (λe=>by injection e with e;omega),hr.grown h1 (λhp ad e=>by simp[c.a hp ad e]),h.col,h.pre⟩
theorem rd_entry {D:DataW Value} {rs:List (RuleF σ×Value)} (h:RD D rs) {nm:List UInt8} {m:Bool} {v:Value} (h0:∀z,D.atKey (lt nm) z= .held (.agg #[.bool m,v])):∃r∈rs,rs.find? (λr=>r.1.name==nm)=some r/\m=r.1.must/\v=r.2/\r.1.name=nm:=by
 have hh:=Maps.has_true_of_atKey h0;cases hf:rs.find? (λr=>r.1.name==nm)with
 |none=>rw[(h.2 nm).1 hf]at hh;cases hh
 |some r=>
  have h2:=((h.2 nm).2 r hf).2 (.lit (.bool false));rw[h0]at h2;simp at h2;exact⟨r,List.mem_of_find?_eq_some hf,rfl,h2.1,h2.2,by simpa using List.find?_some hf⟩
theorem find_self:∀{rs:List (RuleF σ×Value)},(rs.map (·.1.name)).Nodup->∀r∈rs,rs.find? (λq=>q.1.name==r.1.name)=some r
 |[],_,r,hr=>by cases hr
 |x::rs,hn,r,hr=>by
  simp only[List.map_cons,List.nodup_cons]at hn;rcases List.mem_cons.1 hr with rfl|hr
  · simp
  · have hne:x.1.name≠r.1.name:=λe=>hn.1 (List.mem_map.2 ⟨r,hr,e.symm⟩)
    rw[List.find?_cons_of_neg (by simpa using hne)];exact find_self hn.2 r hr
theorem musts_true {rs:List (RuleF σ×Value)} {met:List (List UInt8)} (hn:(rs.map (·.1.name)).Nodup) (hg:∀nm r,rs.find? (λq=>q.1.name==nm)=some r->(!r.1.must||met.contains nm)=true):musts (rs.map (·.1)) met=true:=by
 unfold musts;rw[List.all_eq_true];intro r hr;obtain⟨q,hq,rfl⟩:=List.mem_map.1 hr;exact hg _ _ (find_self hn q hq)
theorem musts_false {rs:List (RuleF σ×Value)} {met:List (List UInt8)} {r:RuleF σ×Value} (hr:r∈rs) (h:(!r.1.must||met.contains r.1.name)=false):musts (rs.map (·.1)) met=false:=by
 rw[Bool.eq_false_iff];intro hm;have:=List.all_eq_true.1 hm _ (List.mem_map.2 ⟨r,hr,rfl⟩);rw[h]at this;cases this
theorem key_str_inv (key:Value) (kl:Lit) (h:keyOf Tryz.prog 9 key=some kl):∃x:ByteArray,key= .string x:=by
 cases key<;>simp[keyOf,Tryz.underlying9,mapKey]at h
 exact⟨_,rfl⟩
theorem key_str_val (x:ByteArray) (kl:Lit) (h:keyOf Tryz.prog 9 (.string x)=some kl):kl=lt x.data.toList/\x.size<=maxLen:=by
 simp[keyOf,Tryz.underlying9,mapKey]at h;exact⟨h.2.symm,h.1⟩
structure RVal where
 m:Bool
 v:Value
def mkR (p:RVal):Value:=.agg #[.bool p.m,p.v]
theorem val_inv (v:Value) (y:DataW Value×List MemPlace) (h:R6 v=some y):∃c,v=mkR c:=by
 obtain⟨b,f,rfl,_⟩:=R6_inv h;exact⟨⟨b,f⟩,rfl⟩
theorem step_app_h {ops:Array Oper} {o:Oper} {a:Act} {K:Act->World->Prop} {Q:Exit->Act->World->Prop} {E:Prop} (w:World) (h1:o.guard=none) (x:Operand)
 (ho:o.op= .call {callee:=.builtin .append,args:=#[.const (.slice none 0 0),x],argTypes:=#[41,41]})
 (A:Option Addr) (n c:Nat) (l:List HdrV) (hx:a.eval x= .slice A n c) (hr:Hr w A n l) (hb:n<=100000)
 (h:∀A' c' w',Hw w' w.heap.size (.slice A' n c') l->Below w.heap.size w w'->K (a.put o.dst (.slice A' n c')) w'):
 if Region.wanted o (yielded ops a.tmps)=true then Oper.wp Tryz.prog o a w K Q else E:=by
 have hw:Region.wanted o (yielded ops a.tmps)=true:=by simp[Region.wanted,h1]
 rw[if_pos hw];obtain⟨v',w',h0,r1,r2⟩:=run_app_h w o.type A n c l hr hb;obtain⟨A',c',rfl,_⟩:=r1.form;rw[hr.1]at h0 r1;unfold Oper.wp execOp;have e:a.eval (.const (.slice none 0 0))= .slice none 0 0:=rfl;simp only[ho,resolve,invoke,builtin,Sem.run_bind,Sem.run_pure,Result.andThen_ok,List.map_toArray,List.map_cons,List.map_nil,e,hx,h0];exact h A' c' w' r1 r2
end Go.Proofs.YtkpppjhbmnfmkaaGreatDoor.H6
end

section
set_option maxHeartbeats 8000000
set_option maxRecDepth 100000
namespace Go.Proofs.YtkpppjhbmnfmkaaGreatDoor.H6
open Lib (hid)
open Go.RowKit Go.Own Go.Own.Hd Go.Own.Fn Go.WideShapes
attribute [local go_sem ↓] Go.wp_at_zero Go.wp_at_succ
variable {σ:Type}
theorem split_any (g:Nat) (T:TypeId) (cells:σ->Array Value) (rs:List (RuleF σ×Value)) (s0:σ) (A:Option Addr) (n c:Nat) (l:List HdrV) (mb nb:Nat) (w:World) {e1 e2 e3:Addr} (he:EnvH w e1 e2 e3) (hc:SpC w g mb A n) (hn:n<=100000) (ge:n<=c)
 (hr:Hr w A n l) (hz:Szs l) (gf:Blk w g T (cells s0)) (hm:RM w mb nb rs) (hf:RF g T cells rs w) (gg:(rs.map (·.1.name)).Nodup):
 Calls Tryz.prog 90 #[.slice A n c,.map (some mb)] w (SplitPost g T cells w (openS (rs.map (·.1)) l s0)):=by
 have gz:=hid (SpJ.start hc gf hm hr (s0:=s0) (rs:=rs));have HE:=hid he;have HC:=hid hc;have HZ:=hid hz;have HF:=hid hf;have HL:=hid hr.1;have gh:=hid gg;have HR:=hid hr;clear he hc hz hf hr gf hm gg;have gA:=@run_mkMap Tryz.prog;go_enter Tryz.func90,Tryz.ntmps90;go_wp2;go_loopw [7] (λi wr=>∃k:Nat,k<=n/\i= .int .i64 (k:Int)/\Hid (∃s,SpJ w g T cells rs A n l mb nb s0 k s wr)) (λi _=>n-(intOf i).toNat)
 case atStart=>exact⟨0,Nat.zero_le _,rfl,hid ⟨s0,gz.out⟩⟩
 case round=>
  obtain⟨k,hk,rfl,hh⟩:=hrel;obtain⟨s,hj⟩:=hh.out;have HJ:=hid hj;clear hj hh gA;by_cases hL:k<n
  · obtain⟨ad,rfl,a0,a1,a2⟩:=HJ.out.hr.at_ hL
    obtain⟨s1,s2⟩:=HZ.out.at_ k;obtain⟨x,hx⟩:∃x,l.getD k ⟨⟨#[]⟩,⟨#[]⟩,false⟩=x:=⟨_,rfl⟩;rw[hx]at a0 a1 a2 s1 s2;have HX:=hid hx;have hp:=λW=>prefix_colon x W;obtain⟨cb,g0⟩:∃cb,colonB x=cb:=⟨_,rfl⟩;rw[g0]at hp;have HP:=hid hp;have gi:=hid g0;obtain⟨m,fv,hb,gj,gk⟩:=run_rule HJ.out.rules x.name (by simp only[maxLen];omega);have gl:=hid gj;have gm:=hid gk;have i0:(0:Int)<=(k:Int):=by omega
    have i1:(k:Int)<(n:Int):=by omega
    obtain⟨xn,xv,xb⟩:=x;simp only at a0 a1 a2 s1 s2 hb gl gm HP;clear hx hp g0 gj gk a2;rcases cb with _|_
    · have hs:=hid (open_through (rs:=rs.map (·.1)) (by rw[HL.out];exact hk) HJ.out.col (.inr (by rw[HX.out];exact gi.out)) HJ.out.pre)
      have g1:=trivial;clear hb;obtain⟨D,ht,Hb⟩:=HJ.out.rules;have H4:=hid ht;have Hc:=hid Hb;clear ht Hb;go_wp2_with (first|((with_reducible refine(HP.out _).mono ?_);rintro e w1 ⟨rfl,rfl⟩)|((with_reducible refine wpList_range_own _ rfl (.tmp 74) 172 rfl 9 170 keyed_str Tryz.underlying172 R6 mb nb D rfl H4.out ?_);intro w0 hu He Hg;have Hh:=hid (And.intro hu (And.intro He Hg));clear hu He Hg));have g2:=hid (HJ.out.other HC.out HR.out (Hh.out.2.1.but _) (show w.heap.size<wr.heap.size from by have h1:=HJ.out.met.lt;omega));clear g1;go_frame;obtain⟨wo,rfl⟩:∃wo:World,wo=wr:=⟨_,rfl⟩;go_loopw [10] (λ_ wr=>Hid (∃(left:Lit->Bool) (cnt:Nat),wr.ranges Tryz.prog 9 R6 mb wo.heap.size nb D left cnt/\SpJ w g T cells rs (some ad) n l mb nb s0 k s wr/\∀nm r,rs.find? (λq=>q.1.name==nm)=some r->left (lt nm)=false->(!r.1.must||((l.take k).map nmOf).contains nm)=true)) (λ_ wr=>wr.rangeLeft mb wo.heap.size)
      case atStart=>exact hid ⟨_,_,Hh.out.1,g2.out,λnm r hf hl=>by
       rw[((Hc.out.2 nm).2 r hf).1]at hl;cases hl⟩
      case round=>
       obtain⟨left,cnt,Hi,Hj,h6⟩:=hrel.out;have hU:=hid Hi;have HQ:=hid Hj;have hV:=hid h6;clear hrel Hi Hj h6;go_wp2_with (with_reducible refine wpList_next_ranges _ rfl (.tmp 75) rfl 9 keyed_str R6 Value.string mkR key_str_inv val_inv mb wo.heap.size nb D left cnt rfl hU.out ?_ ?_)
       · intro _ Hl
         have HM:=hid (musts_true gh.out (λnm r hf=>hV.out nm r hf (Hl _)));have hM:=hid (hs.out.trans (if_pos HM.out));clear Hl;obtain⟨A9,hi,_,hcut⟩:=cut_h HQ.out.hr hk ge;obtain⟨n9,Hm⟩:∃x,n-k=x:=⟨_,rfl⟩;obtain⟨c9,Hn⟩:∃x,c-k=x:=⟨_,rfl⟩;rw[Hm]at hi hcut;rw[Hn]at hcut;have hw:n9<=100000:=by omega
         have hX:=hid (λW (hW:Below wr.heap.size wr W)=>hi.below hW);have Ho:=hid (show Szs (l.drop k)fromλh hh=>HZ.out h (List.mem_of_mem_drop hh));have hN:=hid (λW (hW:Below wr.heap.size wr W)=>trailers_any A9 n9 c9 (l.drop k) W ((HQ.out.env HC.out HE.out).below hW (HQ.out.env HC.out HE.out).room) (by omega) (hi.below hW) Ho.out);have hY:=hid hi.1;obtain⟨l9,Hp⟩:∃x,l.drop k=x:=⟨_,rfl⟩;rw[Hp]at hX hN hM hY;have Hq:=hid hw;clear hi Hm Hn Hp hw hU Ho;obtain⟨b9,g3⟩:∃b,l9.all plainB=b:=⟨_,rfl⟩;rw[g3]at hN hM;have h8:=hid (bdN (Below.refl wr.heap.size wr) 1);rcases b9 with _|_
         · go_wp2
           refine wp_region_noPanic ?_;refine wp_region_held_drew (S:=λ_=>True) (by kernel_rfl) trivial (λhHeld=>?_);refine tk 0 ?_;refine tk 1 ?_;refine tk 2 ?_;refine tk 4 ?_;refine tk 5 ?_;refine tk 6 ?_;refine tkr 3 (λK hK=>?_);refine step_app_h _ (by rfl) (.tmp 91) (by rfl) A9 n9 c9 l9 (by rfl) (hX.out _ h8.out) Hq.out ?_;intro A8 c8 wa ho hq;have h0:=hid (And.intro ho (h8.out.trans (hq.mono h8.out.size)));clear ho hq;refine hK.out _ _ trivial (λhHeld2=>?_);clear hHeld;have hHeld:=hHeld2;clear hHeld2 hK K
           (try simp only[Act.put,List.setIfInBounds_toArray,List.set_cons_zero,List.set_cons_succ])
           refine tkr 7 (λK hK=>?_);go_simp;refine(hN.out _ h0.out.2).mono ?_;rintro e wt ⟨rfl,gt⟩;have h7:=hid gt;clear gt
           (try simp only[errH,cond_true,cond_false])
           (try go_simp)
           refine hK.out _ _ trivial (λhHeld2=>?_);clear hHeld;have hHeld:=hHeld2;clear hHeld2 hK K
           (try simp only[Act.put,List.setIfInBounds_toArray,List.set_cons_zero,List.set_cons_succ])
           refine tk 8 ?_;refine tk 9 ?_;refine tk 10 ?_;refine wpAnyH_done (by kernel_rfl) ?_ _;refine NoPanic.normal ?_;have hZ:=hid ((HQ.out.more (h0.out.2.trans (h7.out.mono h0.out.2.size))).grown);have Hs:=hid (h0.out.1.below h7.out);have Ht:=hid ((HQ.out.more (h0.out.2.trans (h7.out.mono h0.out.2.size))).st);go_wp2;go_ret2;exact⟨hZ.out,.inl ⟨hM.out,_,_,_,rfl⟩⟩
         · go_wp2
           refine wp_region_noPanic ?_;refine wp_region_held_drew (S:=λ_=>True) (by kernel_rfl) trivial (λhHeld=>?_);refine tk 0 ?_;refine tk 1 ?_;refine tk 2 ?_;refine tk 4 ?_;refine tk 5 ?_;refine tk 6 ?_;refine tkr 3 (λK hK=>?_);refine step_app_h _ (by rfl) (.tmp 91) (by rfl) A9 n9 c9 l9 (by rfl) (hX.out _ h8.out) Hq.out ?_;intro A8 c8 wa ho hq;have h0:=hid (And.intro ho (h8.out.trans (hq.mono h8.out.size)));clear ho hq;refine hK.out _ _ trivial (λhHeld2=>?_);clear hHeld;have hHeld:=hHeld2;clear hHeld2 hK K
           (try simp only[Act.put,List.setIfInBounds_toArray,List.set_cons_zero,List.set_cons_succ])
           refine tkr 7 (λK hK=>?_);go_simp;refine(hN.out _ h0.out.2).mono ?_;rintro e wt ⟨rfl,gt⟩;have h7:=hid gt;clear gt
           (try simp only[errH,cond_true,cond_false])
           (try go_simp)
           refine hK.out _ _ trivial (λhHeld2=>?_);clear hHeld;have hHeld:=hHeld2;clear hHeld2 hK K
           (try simp only[Act.put,List.setIfInBounds_toArray,List.set_cons_zero,List.set_cons_succ])
           refine tk 8 ?_;refine tk 9 ?_;refine tk 10 ?_;refine wpAnyH_done (by kernel_rfl) ?_ _;refine NoPanic.normal ?_;have hZ:=hid ((HQ.out.more (h0.out.2.trans (h7.out.mono h0.out.2.size))).grown);have Hs:=hid (h0.out.1.below h7.out);have Ht:=hid ((HQ.out.more (h0.out.2.trans (h7.out.mono h0.out.2.size))).st);go_wp2;go_ret2;exact⟨hZ.out,.inr ⟨l9,s,hM.out,A8,c8,by rw[hY.out];rfl,by rw[hY.out];exact Hs.out.base (by have h1:=HQ.out.met.lt;simp;omega),Ht.out⟩⟩
       · intro x cc kl ya yb w1 cnt1 hA hF Hu Hv hC hD Hx g4 H0
         obtain⟨rfl,g5⟩:=key_str_val x kl hA;obtain⟨m2,v2⟩:=cc;have hy:ya= .held (.agg #[.bool m2,v2]):=congrArg Prod.fst (Option.some.inj (Hu.symm.trans (R6_mk m2 v2)));subst hy;obtain⟨r,H1,Hy,rfl,rfl,HB⟩:=rd_entry Hc.out Hv;obtain⟨K2,f2,p2,HD,_,_⟩:=HF.out r H1;have g8:=hid (HQ.out.other HC.out HR.out Hx (show w.heap.size<wo.heap.size from by have h1:=HJ.out.met.lt;omega));have H5:=hid hC;have hO:=hid (And.intro hD hU.out.left_eq);have hP:=hid (And.intro H1 (And.intro Hy HB))
         replace H0:(Instr.entry (.pointer (some ⟨wo.heap.size,0,none⟩))).run Tryz.prog w1= .ok (.tuple #[.string x,.agg #[.bool r.1.must,r.2]]) w1:=H0
         clear hA Hv Hu hF Hx hC g4 hD H1 Hy HB;obtain⟨⟨rn,rm,rt⟩,rv⟩:=r;simp only at HD H0 hP;subst HD;have h9:Below w1.heap.size w1 (w1.alloc (.cells #[.bool rm,.func (.func K2) f2 p2] 170)):=(Below.refl _ _).alloc (Nat.le_refl _) _;have hQ:=hid (g8.out.more h9);have h4:=hid (H5.out.alloc (.cells #[.bool rm,.func (.func K2) f2 p2] 170));have h5:=run_met hQ.out.met x g5;obtain⟨mt,hd⟩:∃b,((l.take k).map nmOf).contains x.data.toList=b:=⟨_,rfl⟩;rw[hd]at h5;have hR:=hid hd;clear h9 hd;have HH:mkR ⟨rm,.func (.func K2) f2 p2⟩= .agg #[.bool rm,.func (.func K2) f2 p2]:=rfl;rw[HH];clear HH;rcases rm with _|_
         · go_wp2
           go_roundw
           case rel=>exact hid ⟨_,cnt1,h4.out,hQ.out,λnm r hf hl=>by
            by_cases e:nm=x.data.toList
            · subst e
              obtain rfl:=Option.some.inj (hP.out.2.1.symm.trans hf)
              rfl
            · exact hV.out nm r hf (by simpa [Maps.sameKey_ne (lt_ne e)]using hl)⟩
           case measure=>rw[h4.out.left_eq,hO.out.2];exact hO.out.1
         · rcases mt with _|_
           · have HN:=hid (hs.out.trans (if_neg (by rw[musts_false hP.out.1 (by simp only[Bool.not_true,Bool.false_or];rw[hP.out.2.2];exact hR.out)];exact Bool.false_ne_true)))
             go_wp2;go_ret2;exact⟨hQ.out.grown,.inl ⟨HN.out,_,_,_,rfl⟩⟩
           · go_wp2
             go_roundw
             case rel=>exact hid ⟨_,cnt1,h4.out,hQ.out,λnm r hf hl=>by
              by_cases e:nm=x.data.toList
              · subst e
                rw[hR.out,Bool.or_true]
              · exact hV.out nm r hf (by simpa [Maps.sameKey_ne (lt_ne e)]using hl)⟩
             case measure=>rw[h4.out.left_eq,hO.out.2];exact hO.out.1
    · have HO:=hid (all_take_more l ⟨⟨#[]⟩,⟨#[]⟩,false⟩ colonB k (by rw[HL.out];exact hL) HJ.out.col (by rw[HX.out];exact gi.out))
      have HS:=hid (show preN (rs.map (·.1)) (l.take (k+1)) [] s0=Hd.step (rs.map (·.1)) ⟨xn,xv,xb⟩ ((l.take k).map nmOf) s by
       have gn:k<l.length:=by rw[HL.out];exact hL
       have e:=preN_snoc (rs:=rs.map (·.1)) (l.take k) (l.getD k ⟨⟨#[]⟩,⟨#[]⟩,false⟩) [] s0 s HJ.out.pre;rw[HX.out]at e;rw[<-HX.out,List.take_succ_eq_append_getElem gn];have e3:l[k]=l.getD k ⟨⟨#[]⟩,⟨#[]⟩,false⟩:=by simp[List.getD,gn]
       rw[e3,HX.out];exact e)
      have hS:=hid (show Hd.step (rs.map (·.1)) ⟨xn,xv,xb⟩ ((l.take k).map nmOf) s=none->openS (rs.map (·.1)) l s0=none fromλh=>open_bad (by rw[HL.out];exact hL) HO.out (HS.out.trans h));obtain⟨ok,g9⟩:∃ok,((rs.find? (λr=>r.1.name==xn.data.toList))).isSome=ok:=⟨_,rfl⟩;rw[g9]at hb;have go:=hid g9;clear g9;have hI:=hid (λ(o:Obj) (q:Nat)=>bdN ((Below.refl wr.heap.size wr).alloc (Nat.le_refl _) o) q);rcases ok with _|_
      · have hG:rs.find? (λr=>r.1.name==xn.data.toList)=none:=by simpa using go.out
        obtain⟨rfl,rfl⟩:=gm.out hG;have HN:=hid (hS.out (by unfold Hd.step;rw[find_map,show tx xn=xn.data.toList from rfl,hG];rfl));clear hG;go_wp2_with ((with_reducible refine(HP.out _).mono ?_);rintro e w1 ⟨rfl,rfl⟩);go_quiet (fail);have HG:=hid (HJ.out.more (hI.out (.cells #[.bool false,.nilFunc] 170) nq)).grown;go_wp2;go_ret2;exact⟨HG.out,.inl ⟨HN.out,_,_,_,rfl⟩⟩
      · obtain⟨r,hr⟩:∃r,rs.find? (λr=>r.1.name==xn.data.toList)=some r:=Option.isSome_iff_exists.1 go.out
        obtain⟨rfl,rfl⟩:=gl.out r hr;obtain⟨K0,f0,p0,gp,gq,hT⟩:=HF.out r (List.mem_of_find?_eq_some hr);have hH:=hid hT;have hE:∀args w,(callFunc K0 args).run Tryz.prog w= .ok (.enter K0 args) w:=gq;obtain⟨⟨rn,rm,rt⟩,rv⟩:=r;simp only at gp hb hH;subst gp;clear hT gq;have h3:=hid (show Hd.step (rs.map (·.1)) ⟨xn,xv,xb⟩ ((l.take k).map nmOf) s=if((l.take k).map nmOf).contains (tx xn)then none else if valueB (tx xv)then(if(rt xv s).1 then some (rt xv s).2 else none)else none by
         unfold Hd.step;rw[find_map,show tx xn=xn.data.toList from rfl,hr];rfl)
        have h5:=λ(o:Obj) (q:Nat)=>run_met (HJ.out.more (hI.out o q)).met xn (by simp only[maxLen];omega);obtain⟨mt,hd⟩:∃b,((l.take k).map nmOf).contains xn.data.toList=b:=⟨_,rfl⟩;rw[hd]at h5;rw[show tx xn=xn.data.toList from rfl,hd]at h3;have hR:=hid hd;clear hr hd;rcases mt with _|_
        · have HV:=hid (λW=>value_any xv W s2)
          rw[show tx xv=xv.data.toList from rfl]at h3;obtain⟨vb,gs⟩:∃b,valueB xv.data.toList=b:=⟨_,rfl⟩;rw[gs]at HV h3;clear gs;have gB:=h5 (.cells #[.bool rm,.func (.func K0) f0 p0] 170) 1;clear h5;go_wp2_with ((with_reducible refine(HP.out _).mono ?_);rintro e w1 ⟨rfl,rfl⟩);have h9:Below wr.heap.size wr (wr.alloc (.cells #[.bool rm,.func (.func K0) f0 p0] 170)):=(Below.refl _ _).alloc (Nat.le_refl _) _;have HT:=hid (λW (hW:Below wr.heap.size wr W) (hB:Blk W wr.heap.size 170 #[.bool rm,.func (.func K0) f0 p0])=>(by have h:=sp_s (HJ.out.more hW) HX.out hL (by omega) hB;rw[hR.out]at h;exact h:W.cell? (ad.add (k*3))=some (.string xn)/\W.cell? ⟨(ad.add (k*3)).block,(ad.add (k*3)).off+1,none⟩=some (.string xv)/\W.cell? ⟨wr.heap.size,1,none⟩=some (.func (.func K0) f0 p0)/\(Instr.lookup 211 (.map (some w.heap.size)) (.string xn) false).run Tryz.prog W= .ok (.bool false) W));have H9:=Blk.new wr 170 #[.bool rm,.func (.func K0) f0 p0];have HI:=HT.out (wr.alloc (.cells #[.bool rm,.func (.func K0) f0 p0] 170)).drew (bdN h9 1) (H9.drewN 1);have HU:=hid (And.intro h9 H9);have HW:=hid HI;clear gB h9 H9 HI hb a0 a1;rcases vb with _|_
          · have HN:=hid (hS.out (by rw[h3.out];rfl))
            refine wp_region_noPanic ?_;refine wp_region_held_drew (S:=λw'=>w'.cell? (ad.add (k*3))=some (.string xn)/\w'.cell? ⟨(ad.add (k*3)).block,(ad.add (k*3)).off+1,none⟩=some (.string xv)/\w'.cell? ⟨wr.heap.size,1,none⟩=some (.func (.func K0) f0 p0)/\(Instr.lookup 211 (.map (some w.heap.size)) (.string xn) false).run Tryz.prog w'= .ok (.bool false) w') (by kernel_rfl) HW.out (λhHeld=>?_);refine tk 0 ?_;refine tk 1 ?_;refine tk 2 ?_;refine tk 3 ?_;refine tk 4 ?_;refine tk 5 ?_;refine tk 6 ?_;refine tk 7 ?_;refine tk 8 ?_;refine tk 9 ?_;refine tk 10 ?_;refine tk 11 ?_;refine tk 12 ?_;refine tk 13 ?_;refine tk 14 ?_;refine tk 15 ?_;refine tk 16 ?_;refine tkr 17 (λK hK=>?_);go_simp;refine(HV.out _).mono ?_;rintro e w6 ⟨rfl,g6⟩;have H2:Below wr.heap.size wr w6:=HU.out.1.trans (below_of_drew g6 |>.mono (by simp));have H3:Blk w6 wr.heap.size 170 #[.bool rm,.func (.func K0) f0 p0]:=(HU.out.2.drewN 1).below g6 (by simp);have HK:=HT.out w6 H2 H3;have Ha:=hid (And.intro H2 H3);have ga:=hid HK;clear g6 H2 H3 HK
            (try go_simp)
            refine hK.out _ _ ga.out (λhHeld2=>?_);clear hHeld;have hHeld:=hHeld2;clear hHeld2 hK K
            (try simp only[Act.put,List.setIfInBounds_toArray,List.set_cons_zero,List.set_cons_succ])
            refine tk 18 ?_;refine tk 19 ?_;refine tk 20 ?_;refine tk0 21 ?_;refine tk0 22 ?_;refine tk0 23 ?_;refine tk0 24 ?_;refine tk0 25 ?_;refine tk0 26 ?_;refine tk0 27 ?_;refine tk0 28 ?_;refine tk0 29 ?_;refine tk 30 ?_;refine wpAnyH_done (by kernel_rfl) ?_ _;refine NoPanic.normal ?_;have HG:=hid (HJ.out.more Ha.out.1).grown;go_wp2;go_ret2;exact⟨HG.out,.inl ⟨HN.out,_,_,_,rfl⟩⟩
          · have gu:=hid (λW (hJ:SpJ w g T cells rs (some ad) n l mb nb s0 k s W) (hW:Below wr.heap.size wr W)=>hH.out W s (.string xv) xv (Kx.grown hJ.grown (λj e=>by injection e with e;exact e.symm)) hJ.st ⟨rfl,s2⟩)
            obtain⟨tb,gb⟩:∃b,(rt xv s).1=b:=⟨_,rfl⟩;obtain⟨st',H7⟩:∃b,(rt xv s).2=b:=⟨_,rfl⟩;have gd:=hid (λW (hJ:SpJ w g T cells rs (some ad) n l mb nb s0 k s W) (hW:Below wr.heap.size wr W)=>(show Calls Tryz.prog K0 (f0.push (.string xv)++p0) W λe w'=>e= .returned (.bool tb)/\Hid (Blk w' g T (cells st')/\W.grownBy w' (some g))from(gu.out W hJ hW).mono (by
             rintro e w7 ⟨yv,rfl,hy,gv,gC⟩;have hy:yv= .bool (rt xv s).1:=hy;rw[gb]at hy;rw[H7]at gv;exact⟨by rw[hy],hid ⟨gv,gC⟩⟩)))
            rw[gb,H7]at h3;clear gu gb H7 hH;refine wp_region_noPanic ?_;refine wp_region_held_drew (S:=λw'=>w'.cell? (ad.add (k*3))=some (.string xn)/\w'.cell? ⟨(ad.add (k*3)).block,(ad.add (k*3)).off+1,none⟩=some (.string xv)/\w'.cell? ⟨wr.heap.size,1,none⟩=some (.func (.func K0) f0 p0)/\(Instr.lookup 211 (.map (some w.heap.size)) (.string xn) false).run Tryz.prog w'= .ok (.bool false) w') (by kernel_rfl) HW.out (λhHeld=>?_);refine tk 0 ?_;refine tk 1 ?_;refine tk 2 ?_;refine tk 3 ?_;refine tk 4 ?_;refine tk 5 ?_;refine tk 6 ?_;refine tk 7 ?_;refine tk 8 ?_;refine tk 9 ?_;refine tk 10 ?_;refine tk 11 ?_;refine tk 12 ?_;refine tk 13 ?_;refine tk 14 ?_;refine tk 15 ?_;refine tk 16 ?_;refine tkr 17 (λK hK=>?_);go_simp;refine(HV.out _).mono ?_;rintro e w6 ⟨rfl,g6⟩;have H2:Below wr.heap.size wr w6:=HU.out.1.trans (below_of_drew g6 |>.mono (by simp));have H3:Blk w6 wr.heap.size 170 #[.bool rm,.func (.func K0) f0 p0]:=(HU.out.2.drewN 1).below g6 (by simp);have HK:=HT.out w6 H2 H3;have Ha:=hid (And.intro H2 H3);have ga:=hid HK;clear g6 H2 H3 HK
            (try go_simp)
            refine hK.out _ _ ga.out (λhHeld2=>?_);clear hHeld;have hHeld:=hHeld2;clear hHeld2 hK K
            (try simp only[Act.put,List.setIfInBounds_toArray,List.set_cons_zero,List.set_cons_succ])
            refine tk 18 ?_;refine tk 19 ?_;refine tk 20 ?_;refine tk 21 ?_;refine tk 22 ?_;refine tk 23 ?_;refine tk 24 ?_;refine tk 25 ?_;refine tk 26 ?_;refine tk 27 ?_;refine tkr 28 (λK hK=>?_);go_simp;refine(gd.out w6 (HJ.out.more Ha.out.1) Ha.out.1).mono ?_;rintro e w7 ⟨rfl,g7⟩;have HY:=hid ((HJ.out.more Ha.out.1).turned HC.out g7.out.2 g7.out.1);have gc:=sp_t HY.out HC.out HX.out hL (by omega) (Ha.out.2.grown g7.out.2 (by have h1:=HC.out.lg;have h2:=HJ.out.grown.size;intro e;injection e with e;omega));rw[hR.out]at gc;have gw:=hid gc;clear gc g7
            (try go_simp)
            refine hK.out _ _ gw.out (λhHeld2=>?_);clear hHeld;have hHeld:=hHeld2;clear hHeld2 hK K
            (try simp only[Act.put,List.setIfInBounds_toArray,List.set_cons_zero,List.set_cons_succ])
            refine tk 29 ?_;refine tk 30 ?_;refine wpAnyH_done (by kernel_rfl) ?_ _;refine NoPanic.normal ?_;rcases tb with _|_
            · have HN:=hid (hS.out (by rw[h3.out];rfl))
              go_wp2;go_ret2;exact⟨HY.out.1,.inl ⟨HN.out,_,_,_,rfl⟩⟩
            · have gE:=gw.out.1
              have gD:=hid HY.out.2.2.2.1;go_wp2_with ((with_reducible refine wpList_lay_met _ rfl (.tmp 68) (.tmp 73) (.const (.bool true)) rfl w.heap.size k ((l.take k).map nmOf) rfl gD.out (by omega) xn (by simp only[maxLen];omega) rfl rfl ?_);intro w8 gx gy;have H8:=hid (And.intro gx gy);clear gx gy);go_roundw
              case rel=>exact⟨k+1,hL,by go_num,hid ⟨st',SpJ.met1 HY.out HC.out (by rw[HL.out];exact hL) H8.out.2 (HR.out.alt hL) (by rw[HX.out];exact H8.out.1) HO.out (by rw[HS.out,h3.out];rfl)⟩⟩
              case measure=>simp[intOf];omega
        · have HN:=hid (hS.out (by rw[h3.out];rfl))
          clear h5;go_wp2_with ((with_reducible refine(HP.out _).mono ?_);rintro e w1 ⟨rfl,rfl⟩);have h9:Below wr.heap.size wr (wr.alloc (.cells #[.bool rm,.func (.func K0) f0 p0] 170)):=(Below.refl _ _).alloc (Nat.le_refl _) _;have H9:=Blk.new wr 170 #[.bool rm,.func (.func K0) f0 p0];have HI:=(by have h:=sp_s (HJ.out.more (bdN h9 1)) HX.out hL (by omega) (H9.drewN 1);rw[hR.out]at h;exact⟨h.1,h.2.2.2⟩:(wr.alloc (.cells #[.bool rm,.func (.func K0) f0 p0] 170)).drew.cell? (ad.add (k*3))=some (.string xn)/\(Instr.lookup 211 (.map (some w.heap.size)) (.string xn) false).run Tryz.prog (wr.alloc (.cells #[.bool rm,.func (.func K0) f0 p0] 170)).drew= .ok (.bool true) (wr.alloc (.cells #[.bool rm,.func (.func K0) f0 p0] 170)).drew);have HG:=hid (HJ.out.more (bdN h9 1)).grown;have HW:=hid HI;clear h9 H9 HI hb a0 a1;refine wp_region_noPanic ?_;refine wp_region_held_drew (S:=λw'=>w'.cell? (ad.add (k*3))=some (.string xn)/\(Instr.lookup 211 (.map (some w.heap.size)) (.string xn) false).run Tryz.prog w'= .ok (.bool true) w') (by kernel_rfl) HW.out (λhHeld=>?_);refine tk 0 ?_;refine tk 1 ?_;refine tk 2 ?_;refine tk 3 ?_;refine tk 4 ?_;refine tk 5 ?_;refine tk 6 ?_;refine tk 7 ?_;refine tk 8 ?_;refine tk 9 ?_;refine tk 10 ?_;refine tk 11 ?_;refine tk0 12 ?_;refine tk0 13 ?_;refine tk0 14 ?_;refine tk0 15 ?_;refine tk0 16 ?_;refine tk0 17 ?_;refine tk0 18 ?_;refine tk 19 ?_;refine tk 20 ?_;refine tk0 21 ?_;refine tk0 22 ?_;refine tk0 23 ?_;refine tk0 24 ?_;refine tk0 25 ?_;refine tk0 26 ?_;refine tk0 27 ?_;refine tk0 28 ?_;refine tk0 29 ?_;refine tk 30 ?_;refine wpAnyH_done (by kernel_rfl) ?_ _;refine NoPanic.normal ?_;go_wp2;go_ret2;exact⟨HG.out,.inl ⟨HN.out,_,_,_,rfl⟩⟩
  · have hs:=hid (open_through (rs:=rs.map (·.1)) (by rw[HL.out];exact hk) HJ.out.col (.inl (by rw[HL.out];omega)) HJ.out.pre)
    have g1:=trivial;obtain⟨D,ht,Hb⟩:=HJ.out.rules;have H4:=hid ht;have Hc:=hid Hb;clear ht Hb;go_wp2_with ((with_reducible refine wpList_range_own _ rfl (.tmp 74) 172 rfl 9 170 keyed_str Tryz.underlying172 R6 mb nb D rfl H4.out ?_);intro w0 hu He Hg;have Hh:=hid (And.intro hu (And.intro He Hg));clear hu He Hg);have g2:=hid (HJ.out.other HC.out HR.out (Hh.out.2.1.but _) (show w.heap.size<wr.heap.size from by have h1:=HJ.out.met.lt;omega));clear g1;go_frame;obtain⟨wo,rfl⟩:∃wo:World,wo=wr:=⟨_,rfl⟩;go_loopw [10] (λ_ wr=>Hid (∃(left:Lit->Bool) (cnt:Nat),wr.ranges Tryz.prog 9 R6 mb wo.heap.size nb D left cnt/\SpJ w g T cells rs A n l mb nb s0 k s wr/\∀nm r,rs.find? (λq=>q.1.name==nm)=some r->left (lt nm)=false->(!r.1.must||((l.take k).map nmOf).contains nm)=true)) (λ_ wr=>wr.rangeLeft mb wo.heap.size)
    case atStart=>exact hid ⟨_,_,Hh.out.1,g2.out,λnm r hf hl=>by
     rw[((Hc.out.2 nm).2 r hf).1]at hl;cases hl⟩
    case round=>
     obtain⟨left,cnt,Hi,Hj,h6⟩:=hrel.out;have hU:=hid Hi;have HQ:=hid Hj;have hV:=hid h6;clear hrel Hi Hj h6;go_wp2_with (with_reducible refine wpList_next_ranges _ rfl (.tmp 75) rfl 9 keyed_str R6 Value.string mkR key_str_inv val_inv mb wo.heap.size nb D left cnt rfl hU.out ?_ ?_)
     · intro _ Hl
       have HM:=hid (musts_true gh.out (λnm r hf=>hV.out nm r hf (Hl _)));have hM:=hid (hs.out.trans (if_pos HM.out));clear Hl;obtain⟨A9,hi,_,hcut⟩:=cut_h HQ.out.hr hk ge;obtain⟨n9,Hm⟩:∃x,n-k=x:=⟨_,rfl⟩;obtain⟨c9,Hn⟩:∃x,c-k=x:=⟨_,rfl⟩;rw[Hm]at hi hcut;rw[Hn]at hcut;have hw:n9<=100000:=by omega
       have hX:=hid (λW (hW:Below wr.heap.size wr W)=>hi.below hW);have Ho:=hid (show Szs (l.drop k)fromλh hh=>HZ.out h (List.mem_of_mem_drop hh));have hN:=hid (λW (hW:Below wr.heap.size wr W)=>trailers_any A9 n9 c9 (l.drop k) W ((HQ.out.env HC.out HE.out).below hW (HQ.out.env HC.out HE.out).room) (by omega) (hi.below hW) Ho.out);have hY:=hid hi.1;obtain⟨l9,Hp⟩:∃x,l.drop k=x:=⟨_,rfl⟩;rw[Hp]at hX hN hM hY;have Hq:=hid hw;clear hi Hm Hn Hp hw hU Ho;obtain⟨b9,g3⟩:∃b,l9.all plainB=b:=⟨_,rfl⟩;rw[g3]at hN hM;have h8:=hid (bdN (Below.refl wr.heap.size wr) 1);rcases b9 with _|_
       · go_wp2
         refine wp_region_noPanic ?_;refine wp_region_held_drew (S:=λ_=>True) (by kernel_rfl) trivial (λhHeld=>?_);refine tk 0 ?_;refine tk 1 ?_;refine tk 2 ?_;refine tk 4 ?_;refine tk 5 ?_;refine tk 6 ?_;refine tkr 3 (λK hK=>?_);refine step_app_h _ (by rfl) (.tmp 91) (by rfl) A9 n9 c9 l9 (by rfl) (hX.out _ h8.out) Hq.out ?_;intro A8 c8 wa ho hq;have h0:=hid (And.intro ho (h8.out.trans (hq.mono h8.out.size)));clear ho hq;refine hK.out _ _ trivial (λhHeld2=>?_);clear hHeld;have hHeld:=hHeld2;clear hHeld2 hK K
         (try simp only[Act.put,List.setIfInBounds_toArray,List.set_cons_zero,List.set_cons_succ])
         refine tkr 7 (λK hK=>?_);go_simp;refine(hN.out _ h0.out.2).mono ?_;rintro e wt ⟨rfl,gt⟩;have h7:=hid gt;clear gt
         (try simp only[errH,cond_true,cond_false])
         (try go_simp)
         refine hK.out _ _ trivial (λhHeld2=>?_);clear hHeld;have hHeld:=hHeld2;clear hHeld2 hK K
         (try simp only[Act.put,List.setIfInBounds_toArray,List.set_cons_zero,List.set_cons_succ])
         refine tk 8 ?_;refine tk 9 ?_;refine tk 10 ?_;refine wpAnyH_done (by kernel_rfl) ?_ _;refine NoPanic.normal ?_;have hZ:=hid ((HQ.out.more (h0.out.2.trans (h7.out.mono h0.out.2.size))).grown);have Hs:=hid (h0.out.1.below h7.out);have Ht:=hid ((HQ.out.more (h0.out.2.trans (h7.out.mono h0.out.2.size))).st);go_wp2;go_ret2;exact⟨hZ.out,.inl ⟨hM.out,_,_,_,rfl⟩⟩
       · go_wp2
         refine wp_region_noPanic ?_;refine wp_region_held_drew (S:=λ_=>True) (by kernel_rfl) trivial (λhHeld=>?_);refine tk 0 ?_;refine tk 1 ?_;refine tk 2 ?_;refine tk 4 ?_;refine tk 5 ?_;refine tk 6 ?_;refine tkr 3 (λK hK=>?_);refine step_app_h _ (by rfl) (.tmp 91) (by rfl) A9 n9 c9 l9 (by rfl) (hX.out _ h8.out) Hq.out ?_;intro A8 c8 wa ho hq;have h0:=hid (And.intro ho (h8.out.trans (hq.mono h8.out.size)));clear ho hq;refine hK.out _ _ trivial (λhHeld2=>?_);clear hHeld;have hHeld:=hHeld2;clear hHeld2 hK K
         (try simp only[Act.put,List.setIfInBounds_toArray,List.set_cons_zero,List.set_cons_succ])
         refine tkr 7 (λK hK=>?_);go_simp;refine(hN.out _ h0.out.2).mono ?_;rintro e wt ⟨rfl,gt⟩;have h7:=hid gt;clear gt
         (try simp only[errH,cond_true,cond_false])
         (try go_simp)
         refine hK.out _ _ trivial (λhHeld2=>?_);clear hHeld;have hHeld:=hHeld2;clear hHeld2 hK K
         (try simp only[Act.put,List.setIfInBounds_toArray,List.set_cons_zero,List.set_cons_succ])
         refine tk 8 ?_;refine tk 9 ?_;refine tk 10 ?_;refine wpAnyH_done (by kernel_rfl) ?_ _;refine NoPanic.normal ?_;have hZ:=hid ((HQ.out.more (h0.out.2.trans (h7.out.mono h0.out.2.size))).grown);have Hs:=hid (h0.out.1.below h7.out);have Ht:=hid ((HQ.out.more (h0.out.2.trans (h7.out.mono h0.out.2.size))).st);go_wp2;go_ret2;exact⟨hZ.out,.inr ⟨l9,s,hM.out,A8,c8,by rw[hY.out];rfl,by rw[hY.out];exact Hs.out.base (by have h1:=HQ.out.met.lt;simp;omega),Ht.out⟩⟩
     · intro x cc kl ya yb w1 cnt1 hA hF Hu Hv hC hD Hx g4 H0
       obtain⟨rfl,g5⟩:=key_str_val x kl hA;obtain⟨m2,v2⟩:=cc;have hy:ya= .held (.agg #[.bool m2,v2]):=congrArg Prod.fst (Option.some.inj (Hu.symm.trans (R6_mk m2 v2)));subst hy;obtain⟨r,H1,Hy,rfl,rfl,HB⟩:=rd_entry Hc.out Hv;obtain⟨K2,f2,p2,HD,_,_⟩:=HF.out r H1;have g8:=hid (HQ.out.other HC.out HR.out Hx (show w.heap.size<wo.heap.size from by have h1:=HJ.out.met.lt;omega));have H5:=hid hC;have hO:=hid (And.intro hD hU.out.left_eq);have hP:=hid (And.intro H1 (And.intro Hy HB))
       replace H0:(Instr.entry (.pointer (some ⟨wo.heap.size,0,none⟩))).run Tryz.prog w1= .ok (.tuple #[.string x,.agg #[.bool r.1.must,r.2]]) w1:=H0
       clear hA Hv Hu hF Hx hC g4 hD H1 Hy HB;obtain⟨⟨rn,rm,rt⟩,rv⟩:=r;simp only at HD H0 hP;subst HD;have h9:Below w1.heap.size w1 (w1.alloc (.cells #[.bool rm,.func (.func K2) f2 p2] 170)):=(Below.refl _ _).alloc (Nat.le_refl _) _;have hQ:=hid (g8.out.more h9);have h4:=hid (H5.out.alloc (.cells #[.bool rm,.func (.func K2) f2 p2] 170));have h5:=run_met hQ.out.met x g5;obtain⟨mt,hd⟩:∃b,((l.take k).map nmOf).contains x.data.toList=b:=⟨_,rfl⟩;rw[hd]at h5;have hR:=hid hd;clear h9 hd;have HH:mkR ⟨rm,.func (.func K2) f2 p2⟩= .agg #[.bool rm,.func (.func K2) f2 p2]:=rfl;rw[HH];clear HH;rcases rm with _|_
       · go_wp2
         go_roundw
         case rel=>exact hid ⟨_,cnt1,h4.out,hQ.out,λnm r hf hl=>by
          by_cases e:nm=x.data.toList
          · subst e
            obtain rfl:=Option.some.inj (hP.out.2.1.symm.trans hf)
            rfl
          · exact hV.out nm r hf (by simpa [Maps.sameKey_ne (lt_ne e)]using hl)⟩
         case measure=>rw[h4.out.left_eq,hO.out.2];exact hO.out.1
       · rcases mt with _|_
         · have HN:=hid (hs.out.trans (if_neg (by rw[musts_false hP.out.1 (by simp only[Bool.not_true,Bool.false_or];rw[hP.out.2.2];exact hR.out)];exact Bool.false_ne_true)))
           go_wp2;go_ret2;exact⟨hQ.out.grown,.inl ⟨HN.out,_,_,_,rfl⟩⟩
         · go_wp2
           go_roundw
           case rel=>exact hid ⟨_,cnt1,h4.out,hQ.out,λnm r hf hl=>by
            by_cases e:nm=x.data.toList
            · subst e
              rw[hR.out,Bool.or_true]
            · exact hV.out nm r hf (by simpa [Maps.sameKey_ne (lt_ne e)]using hl)⟩
           case measure=>rw[h4.out.left_eq,hO.out.2];exact hO.out.1
end Go.Proofs.YtkpppjhbmnfmkaaGreatDoor.H6
end

section
set_option maxHeartbeats 4000000
set_option maxRecDepth 100000
namespace Go.Own.Hd
open Lib (hid)
structure Req4 where
 m:ByteArray
 s:ByteArray
 a:ByteArray
 p:ByteArray
def reqCells (r:Req4):Array Value:=#[.string r.m,.string r.s,.string r.a,.string r.p,.slice none 0 0]
def colM:List UInt8:=[58,109,101,116,104,111,100]
def colS:List UInt8:=[58,115,99,104,101,109,101]
def colP:List UInt8:=[58,112,97,116,104]
def colA:List UInt8:=[58,97,117,116,104,111,114,105,116,121]
def takeM:RuleF Req4:=⟨colM,true,λv r=>(!v.toList.isEmpty,{r with m:=v})⟩
def takeS:RuleF Req4:=⟨colS,true,λv r=>(!v.toList.isEmpty,{r with s:=v})⟩
def takeP:RuleF Req4:=⟨colP,true,λv r=>(v.toList==[42]||Lib.hasPrefix v.data.toList [47],{r with p:=v})⟩
def takeA:RuleF Req4:=⟨colA,false,λv r=>(true,{r with a:=v})⟩
def rules4:List (RuleF Req4):=[takeM,takeS,takeP,takeA]
def req0:Req4:=⟨⟨#[]⟩,⟨#[]⟩,⟨#[]⟩,⟨#[]⟩⟩
end Go.Own.Hd
namespace Go.Proofs.YtkpppjhbmnfmkaaGreatDoor.H6
open Lib (hid)
open Go.RowKit Go.Own Go.Own.Hd Go.Own.Fn Go.WideShapes
theorem some_any (ad:Addr) (w:World):Calls Tryz.prog 88 #[.pointer (some ad)] w λe w'=>e= .returned (.func (.func 89) #[] #[.pointer (some ⟨w.heap.size,0,none⟩)])/\w'=w.alloc (.cells #[.pointer (some ad)] 165):=by
 go_enter Tryz.func88,Tryz.ntmps88;go_wp2;go_ret;exact⟨rfl,rfl⟩
theorem box_put {σ:Type} {g:Nat} {T:TypeId} {cells:σ->Array Value} {s s':σ} {w:World} {i:Nat} {v:Value} (h:Blk w g T (cells s)) (he:(cells s).setIfInBounds i v=cells s'):Blk (w.setCell ⟨g,i,none⟩ v) g T (cells s'):=he▸h.put i v
theorem take_text (g i b:Nat) (f:ByteArray->Req4->Req4) (hi:i<4) (hf:∀v r,(reqCells r).setIfInBounds i (.string v)=reqCells (f v r)) (w:World) (hb:Blk w b 165 #[.pointer (some ⟨g,i,none⟩)]) (hne:b≠g):
 Fnc Tryz.prog (boxS g 115 reqCells) txtL (isG g) (.func (.func 89) #[] #[.pointer (some ⟨b,0,none⟩)]) (λv r=>(!v.toList.isEmpty,f v r)) w:=by
 refine⟨89,#[],#[.pointer (some ⟨b,0,none⟩)],rfl,enters_of Tryz.func89 (by kernel_rfl) rfl,λW s xv x hW hS hx=>?_⟩;obtain⟨rfl,hsz⟩:=hx;have hS:Blk W g 115 (reqCells s):=hS;have h0:Blk W b 165 #[.pointer (some ⟨g,i,none⟩)]:=Fn.Blk.kx hb hW hne;have HS:=hid hS;have c0:W.cell? ⟨b,0,none⟩=some (.pointer (some ⟨g,i,none⟩)):=h0.cell 0;have c1:∃u,W.cell? ⟨g,i,none⟩=some u:=by
  have:i<(reqCells s).size:=Nat.lt_trans hi (show 4<5 by decide);exact⟨_,(hS.cell i).trans (Array.getElem?_eq_getElem this)⟩
 obtain⟨u,c1⟩:=c1;have c2:=hS.frozen i;have HF:=hid (hf x s);show Calls Tryz.prog 89 #[.string x,.pointer (some ⟨b,0,none⟩)] W λe w'=>∃yv,e= .returned yv/\txtL.RY w' yv (!x.toList.isEmpty)/\Blk w' g 115 (reqCells (f x s))/\W.grownBy w' (some g);obtain⟨s',h1⟩:∃s',f x s=s':=⟨_,rfl⟩;rw[h1]at HF ⊢;clear hb hW hS h0 hf hi h1;go_enter Tryz.func89,Tryz.ntmps89;go_wp2;go_ret;exact⟨_,rfl,rfl,box_put HS.out HF.out,grown_setCell (World.grownBy.refl _ _) _ _⟩
theorem take_auth (g:Nat) (w:World):Fnc Tryz.prog (boxS g 115 reqCells) txtL (isG g) (.func (.func 93) #[] #[.pointer (some ⟨g,0,none⟩)]) takeA.take w:=by
 refine⟨93,#[],#[.pointer (some ⟨g,0,none⟩)],rfl,enters_of Tryz.func93 (by kernel_rfl) rfl,λW s xv x hW hS hx=>?_⟩;obtain⟨rfl,hsz⟩:=hx;have hS:Blk W g 115 (reqCells s):=hS;have HS:=hid hS;have c1:W.cell? ⟨g,2,none⟩=some (.string s.a):=hS.cell 2;have c2:=hS.frozen 2;show Calls Tryz.prog 93 #[.string x,.pointer (some ⟨g,0,none⟩)] W _;clear hW hS;go_enter Tryz.func93,Tryz.ntmps93;go_wp2;go_ret;exact⟨_,rfl,rfl,(show Blk _ g 115 (reqCells {s with a:=x})from box_put (i:=2) (v:=.string x) (s':={s with a:=x}) HS.out rfl),grown_setCell (World.grownBy.refl _ _) _ _⟩
theorem take_path (g:Nat) (w:World):Fnc Tryz.prog (boxS g 115 reqCells) txtL (isG g) (.func (.func 91) #[] #[.pointer (some ⟨g,0,none⟩)]) takeP.take w:=by
 refine⟨91,#[],#[.pointer (some ⟨g,0,none⟩)],rfl,enters_of Tryz.func91 (by kernel_rfl) rfl,λW s xv x hW hS hx=>?_⟩;obtain⟨rfl,hsz⟩:=hx;have hS:Blk W g 115 (reqCells s):=hS;have HS:=hid hS;have c1:W.cell? ⟨g,3,none⟩=some (.string s.p):=hS.cell 3;have c2:=hS.frozen 3;show Calls Tryz.prog 91 #[.string x,.pointer (some ⟨g,0,none⟩)] W _;have HP:=hid (λW=>(Tryz.strings_HasPrefix x ⟨#[47]⟩ W).mono (λe w' h=>(⟨h.1,h.2.symm⟩:e= .returned (.bool (Lib.hasPrefix x.data.toList [47]))/\W=w')));obtain⟨hb,h0⟩:∃b,Lib.hasPrefix x.data.toList [47]=b:=⟨_,rfl⟩;rw[h0]at HP;obtain⟨q,hq⟩:∃b,(x.toList==[42])=b:=⟨_,rfl⟩;have HT:=hid (show(takeP.take x s)=(q||hb,{s with p:=x})by show(x.toList==[42]||Lib.hasPrefix x.data.toList [47],_)=_;rw[hq,h0]);clear hW hS h0;rcases q with _|_
 · go_enter Tryz.func91,Tryz.ntmps91
   go_wp2_with ((with_reducible refine(HP.out _).mono ?_);rintro e w1 ⟨rfl,rfl⟩);go_ret;exact⟨_,rfl,by rw[HT.out];rfl,by rw[HT.out];exact box_put (i:=3) (v:=.string x) (s':={s with p:=x}) HS.out rfl,grown_setCell (World.grownBy.refl _ _) _ _⟩
 · go_enter Tryz.func91,Tryz.ntmps91
   go_wp2;go_ret;exact⟨_,rfl,by rw[HT.out];rfl,by rw[HT.out];exact box_put (i:=3) (v:=.string x) (s':={s with p:=x}) HS.out rfl,grown_setCell (World.grownBy.refl _ _) _ _⟩
def rs4 (g b1 b2:Nat):List (RuleF Req4×Value):=[(takeM,.func (.func 89) #[] #[.pointer (some ⟨b1,0,none⟩)]),(takeS,.func (.func 89) #[] #[.pointer (some ⟨b2,0,none⟩)]),(takeP,.func (.func 91) #[] #[.pointer (some ⟨g,0,none⟩)]),(takeA,.func (.func 93) #[] #[.pointer (some ⟨g,0,none⟩)])]
theorem rs4_rules (g b1 b2:Nat):(rs4 g b1 b2).map (·.1)=rules4:=rfl
theorem rs4_nodup (g b1 b2:Nat):((rs4 g b1 b2).map (·.1.name)).Nodup:=by show[colM,colS,colP,colA].Nodup;decide
theorem rs4_fn (g b1 b2:Nat) (w:World) (h1:Blk w b1 165 #[.pointer (some ⟨g,0,none⟩)]) (h2:Blk w b2 165 #[.pointer (some ⟨g,1,none⟩)]) (n1:b1≠g) (n2:b2≠g):RF g 115 reqCells (rs4 g b1 b2) w:=by
 intro r hr;simp only[rs4,List.mem_cons,List.not_mem_nil,or_false]at hr;rcases hr with rfl|rfl|rfl|rfl
 · exact take_text g 0 b1 (λv r=>{r with m:=v}) (by decide) (λ_ _=>rfl) w h1 n1
 · exact take_text g 1 b2 (λv r=>{r with s:=v}) (by decide) (λ_ _=>rfl) w h2 n2
 · exact take_path g w
 · exact take_auth g w
theorem res9 (tmps:Array Value) (w:World) (b:Nat) (cs:Array Value) (ev:Value) (ht:tmps[2]?=some (.pointer (some ⟨b,0,none⟩))) (h3:tmps[3]?=some ev) (hc:cs.size=5) (hb:Blk w b 115 cs):
 (results Tryz.f57 tmps).run Tryz.prog w= .ok (.tuple #[.agg cs,ev]) w:=by
 have h0:∃a0 a1 a2 a3 a4,cs= #[a0,a1,a2,a3,a4]:=by
  obtain⟨l⟩:=cs;rcases l with _|⟨a0,_|⟨a1,_|⟨a2,_|⟨a3,_|⟨a4,_|⟨a5,l⟩⟩⟩⟩⟩⟩<;>simp at hc
  exact⟨a0,a1,a2,a3,a4,rfl⟩
 obtain⟨a0,a1,a2,a3,a4,rfl⟩:=h0;have c0:w.cell? ⟨b,0,none⟩=some a0:=hb.cell 0;have c1:w.cell? ⟨b,1,none⟩=some a1:=hb.cell 1;have c2:w.cell? ⟨b,2,none⟩=some a2:=hb.cell 2;have c3:w.cell? ⟨b,3,none⟩=some a3:=hb.cell 3;have c4:w.cell? ⟨b,4,none⟩=some a4:=hb.cell 4;simp[results,Tryz.results57,go_sem,ht,h3,c0,c1,c2,c3,c4]
def OpenPost (e1:Addr) (w:World) (r:Option (List HdrV×Req4)) (e:Ending) (w':World):Prop:=
 Below w.heap.size w w'/\((r=none/\e= .returned (.tuple #[.agg #[.string ⟨#[]⟩,.string ⟨#[]⟩,.string ⟨#[]⟩,.string ⟨#[]⟩,.slice none 0 0],errH e1]))\/
  ∃rest s,r=some (rest,s)/\∃A c,e= .returned (.tuple #[.agg #[.string s.m,.string s.s,.string s.a,.string s.p,.slice A rest.length c],.nilIface])/\Hw w' w.heap.size (.slice A rest.length c) rest)
theorem below_box {w w0 w':World} {g:Nat} (hb:Below w.heap.size w w0) (hg:w0.grownBy w' (some g)) (h:w.heap.size<=g):Below w.heap.size w w':=
 hb.grown hg hb.size (λj e=>by injection e with e;omega)
structure OpF (w:World) (rs:List (RuleF Req4×Value)) (k:Nat) (W:World):Prop where
 bel:Below w.heap.size w W
 req:Blk W (w.heap.size+1) 115 (reqCells req0)
 res:Blk W w.heap.size 115 (reqCells req0)
 b1:Blk W (w.heap.size+1+1+1) 165 #[.pointer (some ⟨w.heap.size+1,0,none⟩)]
 rm:RM W (w.heap.size+1+1) k rs
theorem OpF.start (w:World):OpF w [] 0 ((((w.alloc (.cells (reqCells req0) 115)).alloc (.cells (reqCells req0) 115)).alloc (.map #[] 0)).alloc (.cells #[.pointer (some ⟨w.heap.size+1,0,none⟩)] 165)):=by
 have s1:(w.alloc (.cells (reqCells req0) 115)).heap.size=w.heap.size+1:=by simp
 have s2:((w.alloc (.cells (reqCells req0) 115)).alloc (.cells (reqCells req0) 115)).heap.size=w.heap.size+1+1:=by simp
 have s3:(((w.alloc (.cells (reqCells req0) 115)).alloc (.cells (reqCells req0) 115)).alloc (.map #[] 0)).heap.size=w.heap.size+1+1+1:=by simp
 refine⟨((((Below.refl _ _).alloc (Nat.le_refl _) _).alloc (by rw[s1];omega) _).alloc (by rw[s2];omega) _).alloc (by rw[s3];omega) _,?_,?_,?_,?_⟩
 · have:=((Blk.new (w.alloc (.cells (reqCells req0) 115)) 115 (reqCells req0)).alloc (.map #[] 0)).alloc (.cells #[.pointer (some ⟨w.heap.size+1,0,none⟩)] 165)
   rw[s1]at this;exact this
 · exact(((Blk.new w 115 (reqCells req0)).alloc _).alloc _).alloc _
 · have:=Blk.new (((w.alloc (.cells (reqCells req0) 115)).alloc (.cells (reqCells req0) 115)).alloc (.map #[] 0)) 165 #[.pointer (some ⟨w.heap.size+1,0,none⟩)]
   rw[s3]at this;exact this
 · have:=(World.ownsMap_made ((w.alloc (.cells (reqCells req0) 115)).alloc (.cells (reqCells req0) 115)) Tryz.prog 9 R6).alloc (.cells #[.pointer (some ⟨w.heap.size+1,0,none⟩)] 165)
   rw[s2]at this;exact⟨_,this,RD_nil⟩
theorem OpF.laid {w W W':World} {rs rs':List (RuleF Req4×Value)} {k k':Nat} (h:OpF w rs k W) (hg:W.grownBy W' (some (w.heap.size+1+1))) (hm:RM W' (w.heap.size+1+1) k' rs'):OpF w rs' k' W':=
 ⟨h.bel.grown hg h.bel.size (λj e=>by injection e with e;omega),h.req.grown hg (λe=>by injection e with e;omega),h.res.grown hg (λe=>by injection e with e;omega),h.b1.grown hg (λe=>by injection e with e;omega),hm⟩
theorem OpF.alloc {w W:World} {rs:List (RuleF Req4×Value)} {k:Nat} (h:OpF w rs k W) (o:Obj):OpF w rs k (W.alloc o):=
 ⟨h.bel.alloc h.bel.size _,h.req.alloc _,h.res.alloc _,h.b1.alloc _,h.rm.kept (World.grownBy_alloc W o none) (by simp)⟩
def rM (b1:Nat):RuleF Req4×Value:=(takeM,.func (.func 89) #[] #[.pointer (some ⟨b1,0,none⟩)])
def rS (b2:Nat):RuleF Req4×Value:=(takeS,.func (.func 89) #[] #[.pointer (some ⟨b2,0,none⟩)])
def rP (g:Nat):RuleF Req4×Value:=(takeP,.func (.func 91) #[] #[.pointer (some ⟨g,0,none⟩)])
def rA (g:Nat):RuleF Req4×Value:=(takeA,.func (.func 93) #[] #[.pointer (some ⟨g,0,none⟩)])
theorem open_any (A:Option Addr) (n c:Nat) (l:List HdrV) (w:World) {e1 e2 e3:Addr} (he:EnvH w e1 e2 e3) (hn:n<=100000) (hq:n<=c) (hr:Hr w A n l) (hz:Szs l):
 Calls Tryz.prog 57 #[.slice A n c] w (OpenPost e1 w (openS rules4 l req0)):=by
 have HE:=hid he;have HR:=hid hr;have HZ:=hid hz;have HN:=hid (And.intro hn hq);clear he hr hz hn hq;have hI:=@run_mkMap Tryz.prog;go_enter Tryz.func57,Tryz.ntmps57;go_wp2_with fail;refine(some_any _ _).mono ?_;rintro e wx ⟨rfl,rfl⟩;have h3:=hid (OpF.start w);simp only[reqCells,req0]at h3;generalize ((((w.alloc _).alloc _).alloc _).alloc _)=W1 at h3 ⊢;go_wp2_with (refine wpList_lay_rule _ rfl (.tmp 10) (.const (.string ⟨#[58,109,101,116,104,111,100]⟩)) (.tmp 14) rfl (w.heap.size+1+1) 0 [] rfl h3.out.rm (by omega) (rM (w.heap.size+1+1+1)) ⟨#[58,109,101,116,104,111,100]⟩ (by decide) rfl rfl rfl rfl ?_;intro w1 hs ht;have h7:=hid (h3.out.laid ht hs);clear hs ht);refine(some_any _ _).mono ?_;rintro e wx ⟨rfl,rfl⟩;have h8:=hid (h7.out.alloc (.cells #[.pointer (some ⟨w.heap.size+1,1,none⟩)] 165));have h9:=hid (Blk.new w1 165 #[.pointer (some ⟨w.heap.size+1,1,none⟩)]);have hb:w.heap.size+1+1+1<w1.heap.size:=h7.out.b1.lt;obtain⟨b2,hu⟩:∃b,w1.heap.size=b:=⟨_,rfl⟩;rw[hu]at h9 hb ⊢;clear hu h3 h7;generalize w1.alloc (.cells #[.pointer (some ⟨w.heap.size+1,1,none⟩)] 165)=W2 at h8 h9 ⊢;have nb2:some b2≠some (w.heap.size+1+1):=λe=>by injection e with e;omega
 have NB2:=hid (And.intro hb nb2);clear hb nb2;go_wp2_with (first
  |(refine wpList_lay_rule _ rfl (.tmp 10) (.const (.string ⟨#[58,115,99,104,101,109,101]⟩)) (.tmp 18) rfl (w.heap.size+1+1) 1 [rM (w.heap.size+1+1+1)] rfl h8.out.rm (by omega) (rS b2) ⟨#[58,115,99,104,101,109,101]⟩ (by decide) rfl rfl rfl rfl ?_;intro w3 hw hc;have hd:=hid (And.intro (h8.out.laid hc hw) (h9.out.grown hc NB2.out.2));clear hw hc)
  |(refine wpList_lay_rule _ rfl (.tmp 10) (.const (.string ⟨#[58,112,97,116,104]⟩)) (.tmp 20) rfl (w.heap.size+1+1) 2 _ rfl hd.out.1.rm (by omega) (rP (w.heap.size+1)) ⟨#[58,112,97,116,104]⟩ (by decide) rfl rfl rfl rfl ?_;intro w4 hA hf;have hh:=hid (And.intro (hd.out.1.laid hf hA) (hd.out.2.grown hf NB2.out.2));clear hA hf)
  |(refine wpList_lay_rule _ rfl (.tmp 10) (.const (.string ⟨#[58,97,117,116,104,111,114,105,116,121]⟩)) (.tmp 22) rfl (w.heap.size+1+1) 3 _ rfl hh.out.1.rm (by omega) (rA (w.heap.size+1)) ⟨#[58,97,117,116,104,111,114,105,116,121]⟩ (by decide) rfl rfl rfl rfl ?_;intro w5 hC hi;have h1:=hid (And.intro (hh.out.1.laid hi hC) (hh.out.2.grown hi NB2.out.2));clear hC hi))
 have hD:=hid (split_any (w.heap.size+1) 115 reqCells (rs4 (w.heap.size+1) (w.heap.size+1+1+1) b2) req0 A n c l (w.heap.size+1+1) 4 w5 (HE.out.below h1.out.1.bel HE.out.room)
  ⟨h1.out.1.rm.lt,h1.out.1.req.lt,by omega,by have:=HE.out.room;omega,λhp ad e=>by have:=HR.out.alt hp ad e;omega⟩ HN.out.1 HN.out.2 (HR.out.below h1.out.1.bel) HZ.out h1.out.1.req h1.out.1.rm (rs4_fn _ _ _ w5 h1.out.1.b1 h1.out.2 (by omega) (by have:=NB2.out.1;omega)) (rs4_nodup _ _ _))
 refine hD.out.mono ?_;rintro e w6 ⟨g6,h6⟩;rw[rs4_rules]at h6;have h4:=h1.out.1.res.grown g6 (λe=>by injection e with e;omega);have hj:=hid (below_box h1.out.1.bel g6 (by omega));have h0:=hid h4;clear g6 h4 hD;rcases h6 with⟨h6,A6,n6,c6,rfl⟩|⟨rest,s,h6,A6,c6,rfl,hE,hF⟩
 · have H6:=hid h6
   clear h6;have hJ:=(HE.out.below hj.out HE.out.room).head;have r0:=h0.out.cell 0;have r1:=h0.out.cell 1;have r2:=h0.out.cell 2;have r3:=h0.out.cell 3;have r4:=h0.out.cell 4;have q0:=h0.out.frozen 0;have q1:=h0.out.frozen 1;have q2:=h0.out.frozen 2;have q3:=h0.out.frozen 3;have q4:=h0.out.frozen 4;simp only[reqCells,req0]at r0 r1 r2 r3 r4;have hG:w.heap.size≠0:=by have:=HE.out.room;omega
   have hK:¬(0=w.heap.size):=λe=>hG e.symm;go_wp2;go_region;all_goals
    go_wp2;have hl:=(((((h0.out.put 0 (.string ⟨#[]⟩)).put 1 (.string ⟨#[]⟩)).put 2 (.string ⟨#[]⟩)).put 3 (.string ⟨#[]⟩)).put 4 (.slice none 0 0)).drewN 1;refine bodyPost_ret (res9 _ _ w.heap.size #[.string ⟨#[]⟩,.string ⟨#[]⟩,.string ⟨#[]⟩,.string ⟨#[]⟩,.slice none 0 0] (errH e1) rfl rfl rfl hl) rfl ⟨bdN (((((hj.out.setCell (Nat.le_refl _) _).setCell (Nat.le_refl _) _).setCell (Nat.le_refl _) _).setCell (Nat.le_refl _) _).setCell (Nat.le_refl _) _) 1,.inl ⟨H6.out,rfl⟩⟩
 · have H6:=hid h6
   have hH:=hid hE;have h2:=hid hF;clear h6 hE hF;have r0:=h0.out.cell 0;have r1:=h0.out.cell 1;have r2:=h0.out.cell 2;have r3:=h0.out.cell 3;have r4:=h0.out.cell 4;have q0:=h0.out.frozen 0;have q1:=h0.out.frozen 1;have q2:=h0.out.frozen 2;have q3:=h0.out.frozen 3;have q4:=h0.out.frozen 4;have s0:=h2.out.cell 0;have s1:=h2.out.cell 1;have s2:=h2.out.cell 2;have s3:=h2.out.cell 3;have s4:=h2.out.cell 4;have z4:=h2.out.frozen 4;simp only[reqCells,req0]at r0 r1 r2 r3 r4 s0 s1 s2 s3 s4;go_wp2;have hl:Blk ((((((w6.setCell ⟨w.heap.size+1,4,none⟩ (.slice A6 rest.length c6)).setCell ⟨w.heap.size,0,none⟩ (.string s.m)).setCell ⟨w.heap.size,1,none⟩ (.string s.s)).setCell ⟨w.heap.size,2,none⟩ (.string s.a)).setCell ⟨w.heap.size,3,none⟩ (.string s.p)).setCell ⟨w.heap.size,4,none⟩ (.slice A6 rest.length c6)) w.heap.size 115 #[.string s.m,.string s.s,.string s.a,.string s.p,.slice A6 rest.length c6]:=
    (((((h0.out.far (show w.heap.size≠w.heap.size+1 by omega) _).put 0 _).put 1 _).put 2 _).put 3 _).put 4 _
   have hm:Below w.heap.size w ((((((w6.setCell ⟨w.heap.size+1,4,none⟩ (.slice A6 rest.length c6)).setCell ⟨w.heap.size,0,none⟩ (.string s.m)).setCell ⟨w.heap.size,1,none⟩ (.string s.s)).setCell ⟨w.heap.size,2,none⟩ (.string s.a)).setCell ⟨w.heap.size,3,none⟩ (.string s.p)).setCell ⟨w.heap.size,4,none⟩ (.slice A6 rest.length c6)):=
    (((((hj.out.setCell (Nat.le_succ _) _).setCell (Nat.le_refl _) _).setCell (Nat.le_refl _) _).setCell (Nat.le_refl _) _).setCell (Nat.le_refl _) _).setCell (Nat.le_refl _) _
   refine bodyPost_ret (res9 _ _ w.heap.size _ _ rfl rfl rfl hl) rfl ⟨hm,.inr ⟨rest,s,H6.out,A6,c6,rfl,?_⟩⟩;have h5:=h1.out.1.bel.size;have hL:w.heap.size+1<w5.heap.size:=h1.out.1.req.lt;have hk:∀(W:World) (p:Addr) (v:Value),p.block<w5.heap.size->Hw W w5.heap.size (.slice A6 rest.length c6) rest->Hw (W.setCell p v) w5.heap.size (.slice A6 rest.length c6) rest:=λW p v hp h=>h.grown (row:=some p.block) (by
    refine⟨rfl,rfl,rfl,by simp[World.setCell],λi _ hne=>Below.heap_setCell W p v i (λe=>hne (by rw[e]))⟩) (by
    rcases ho:(Value.slice A6 rest.length c6).ownBlock with _|b
    · exact .inl rfl
    · exact .inr (λe=>by have:=(h.lt b ho).1;injection e with e;omega))
   exact(hk _ _ _ (by show w.heap.size<_;omega) (hk _ _ _ (by show w.heap.size<_;omega) (hk _ _ _ (by show w.heap.size<_;omega) (hk _ _ _ (by show w.heap.size<_;omega) (hk _ _ _ (by show w.heap.size<_;omega) (hk _ _ _ (by show w.heap.size+1<_;omega) hH.out)))))).base h5
end Go.Proofs.YtkpppjhbmnfmkaaGreatDoor.H6
end

section
set_option maxHeartbeats 1000000
set_option maxRecDepth 100000
namespace Go.Proofs.YtkpppjhbmnfmkaaGreatDoor.H6
open Lib (hid)
open Go.RowKit Go.Own Go.Own.Hd Go.Own.Fn Go.WideShapes Go.Shelf
attribute [local go_sem] Oper.semAt_some
section
variable {ops:Array Oper} {rest:List Oper} {o:Oper} {a:Act} {Q:Exit->Act->World->Prop}
end
structure CpJ (w:World) (l:List HdrV) (k:Nat) (v:Value) (W:World):Prop where
 bel:Below w.heap.size w W
 own:Hw W w.heap.size v (l.take k)
theorem sameHeader_yes (a:HdrV) (w:World):Calls Tryz.prog 56 #[.agg #[.string a.name,.string a.value,.bool a.never],.agg #[.string a.name,.string a.value,.bool a.never]] w λe w'=>e= .returned (.bool true)/\Below w.heap.size w w':=by
 obtain⟨n,v,b⟩:=a;simp only;go_enter Tryz.func56,Tryz.ntmps56;go_wp2;go_ret;exact⟨rfl,((Below.refl _ _).alloc (Nat.le_refl _) _).alloc (by simp) _⟩
theorem sameHeaders_yes (A A2:Option Addr) (n c c2:Nat) (l:List HdrV) (w:World) (hn:n<=1000000000) (h1:Hr w A n l) (h2:Hr w A2 n l):
 Calls Tryz.prog 27 #[.slice A n c,.slice A2 n c2] w λe w'=>e= .returned (.bool true)/\Below w.heap.size w w':=by
 have H1:=hid h1;have H2:=hid h2;clear h1 h2;go_enter Tryz.func27,Tryz.ntmps27;go_wp2;go_loopw [5] (λi wr=>∃k:Nat,k<=n/\i= .int .i64 (k:Int)/\Hid (Below w.heap.size w wr)) (λi _=>n-(intOf i).toNat)
 case atStart=>exact⟨0,by omega,rfl,hid (Below.refl _ _)⟩
 case round=>
  obtain⟨k,hk,rfl,hb⟩:=hrel;by_cases h0:k<n
  · obtain⟨ad,rfl,a0,a1,a2⟩:=(H1.out.below hb.out).at_ h0
    obtain⟨ad2,rfl,b0,b1,b2⟩:=(H2.out.below hb.out).at_ h0;obtain⟨x,hx⟩:∃x,l.getD k ⟨⟨#[]⟩,⟨#[]⟩,false⟩=x:=⟨_,rfl⟩;rw[hx]at a0 a1 a2 b0 b1 b2;obtain⟨xn,xv,xb⟩:=x;simp only at a0 a1 a2 b0 b1 b2;clear hx;have i0:(0:Int)<=(k:Int):=by omega
    have i1:(k:Int)<(n:Int):=by omega
    have HS:=hid λW=>sameHeader_yes ⟨xn,xv,xb⟩ W;go_wp2_with fail;go_region_with ((refine(HS.out _).mono ?_;rintro e w2 ⟨rfl,g1⟩;have HB:=hid (hb.out.trans (Below.mono (B:=wr.heap.size) (by exact⟨g1.os,g1.tape,g1.output,g1.size,g1.block⟩) hb.out.size));clear g1));all_goals
     go_wp2_with fail;go_roundw
     case rel=>exact⟨k+1,h0,by go_num,HB⟩
     case measure=>simp[intOf];omega
  · obtain rfl:k=n:=by omega
    go_wp2;go_ret;exact⟨rfl,hb.out⟩
end Go.Proofs.YtkpppjhbmnfmkaaGreatDoor.H6
end
