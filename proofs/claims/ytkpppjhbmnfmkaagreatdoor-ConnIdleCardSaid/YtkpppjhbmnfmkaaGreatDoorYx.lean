import Derived.Test.YtkpppjhbmnfmkaaGreatDoorJav
import Derived.Test.YtkpppjhbmnfmkaaGreatDoorYl
set_option linter.unusedSimpArgs false
set_option linter.unusedVariables false
namespace Go.Proofs.YtkpppjhbmnfmkaaGreatDoor
open Go.RowKit Go.Own Go.Own.Fr Go.Own.Im
theorem setsOf_err:∀(l:List UInt8) (x:Nat×Nat),setsOf l= .error x->x.1<=6/\x.2=0
 |a::b::c::d::e::f::r,x,h=>by
  rw[setsOf]at h;cases hb:badSet (ofB 0 [a,b],ofB 0 [c,d,e,f])with
  |some k=>
   rw[hb]at h;injection h with h
   subst h;refine⟨?_,rfl⟩;unfold badSet at hb
   split at hb
   · injection hb with hb;omega
   · split at hb
     · injection hb with hb;omega
     · cases hb
  |none=>
   rw[hb]at h;cases hr:setsOf r with
   |ok l=>rw[hr]at h;cases h
   |error y=>
    rw[hr]at h;injection h with h
    subst h;exact setsOf_err r _ hr
 |[],x,h=>by cases h
 |[_],x,h=>by cases h
 |[_,_],x,h=>by cases h
 |[_,_,_],x,h=>by cases h
 |[_,_,_,_],x,h=>by cases h
 |[_,_,_,_,_],x,h=>by cases h
theorem two_lt (a b:UInt8):ofB 0 [a,b]<=65535:=by
 have:=a.toNat_lt;have:=b.toNat_lt;simp[ofB];omega
theorem four_lt (a b c d:UInt8):ofB 0 [a,b,c,d]<=4294967295:=by
 have:=a.toNat_lt;have:=b.toNat_lt;have:=c.toNat_lt;have:=d.toNat_lt;simp[ofB];omega
theorem setsOf_ok:∀(l:List UInt8) (q:List (Nat×Nat)),setsOf l= .ok q->(∀x∈q,x.1<=65535/\x.2<=4294967295)/\q.length<=l.length
 |a::b::c::d::e::f::r,q,h=>by
  rw[setsOf]at h;cases hb:badSet (ofB 0 [a,b],ofB 0 [c,d,e,f])with
  |some k=>rw[hb]at h;cases h
  |none=>
   rw[hb]at h;cases hr:setsOf r with
   |error y=>rw[hr]at h;cases h
   |ok l=>
    rw[hr]at h;injection h with h
    subst h;obtain⟨h1,h2⟩:=setsOf_ok r _ hr;refine⟨λx hx=>?_,by simp;omega⟩;rcases List.mem_cons.1 hx with rfl|hx
    · exact⟨two_lt a b,four_lt c d e f⟩
    · exact h1 x hx
 |[],q,h=>by injection h with h;subst h;exact⟨λx hx=>(by cases hx),Nat.le_refl _⟩
 |[_],q,h=>by injection h with h;subst h;exact⟨λx hx=>(by cases hx),Nat.zero_le _⟩
 |[_,_],q,h=>by injection h with h;subst h;exact⟨λx hx=>(by cases hx),Nat.zero_le _⟩
 |[_,_,_],q,h=>by injection h with h;subst h;exact⟨λx hx=>(by cases hx),Nat.zero_le _⟩
 |[_,_,_,_],q,h=>by injection h with h;subst h;exact⟨λx hx=>(by cases hx),Nat.zero_le _⟩
 |[_,_,_,_,_],q,h=>by injection h with h;subst h;exact⟨λx hx=>(by cases hx),Nat.zero_le _⟩
theorem rd_err {i:Inf} {p:List UInt8} {x:Nat×Nat} (h:rd i p= .error x):x.1<=6/\(x.2=0\/x.2=i.stream):=by
 rcases ten i.typ with h1|h1|h1|h1|h1|h1|h1|h1|h1|h1|h1
 · rw[rd_0 h1]at h;cases h
 · rw[rd_one h1,withDep_is]at h
   split at h
   · split at h
     · injection h with h;subst h;exact⟨Nat.le_refl _,.inl rfl⟩
     · by_cases hd:(depI i p).dep=i.stream
       · rw[if_pos hd]at h;injection h with h;subst h;exact⟨by show 1<=6;omega,.inr rfl⟩
       · rw[if_neg hd]at h;cases h
   · cases h
 · rw[rd_2 h1,withDep_is]at h
   split at h
   · split at h
     · injection h with h;subst h;exact⟨by show 1<=6;omega,.inr rfl⟩
     · cases h
   · injection h with h;subst h;exact⟨Nat.le_refl _,.inr rfl⟩
 · rw[rd_3 h1]at h
   split at h
   · cases h
   · injection h with h;subst h;exact⟨Nat.le_refl _,.inl rfl⟩
 · rw[rd_4 h1]at h
   split at h
   · injection h with h;subst h;exact⟨Nat.le_refl _,.inl rfl⟩
   · cases hs:setsOf p with
     |ok l=>rw[hs]at h;cases h
     |error y=>
      rw[hs]at h;injection h with h
      subst h;exact⟨(setsOf_err p _ hs).1,.inl (setsOf_err p _ hs).2⟩
 · rw[rd_5 h1]at h
   split at h
   · injection h with h;subst h;exact⟨Nat.le_refl _,.inl rfl⟩
   · split at h
     · injection h with h;subst h;exact⟨by decide,.inl rfl⟩
     · cases h
 · rw[rd_6 h1]at h
   split at h
   · cases h
   · injection h with h;subst h;exact⟨Nat.le_refl _,.inl rfl⟩
 · rw[rd_7 h1]at h
   split at h
   · injection h with h;subst h;exact⟨Nat.le_refl _,.inl rfl⟩
   · cases h
 · rw[rd_8 h1]at h
   split at h
   · split at h
     · injection h with h;subst h;exact⟨by show 1<=6;omega,.inr rfl⟩
     · cases h
   · injection h with h;subst h;exact⟨Nat.le_refl _,.inl rfl⟩
 · rw[rd_9 h1]at h;cases h
 · rw[rd_big h1]at h;cases h
theorem opn_err {t f s:Nat} {p:List UInt8} {x:Nat×Nat} (h:opn t f s p= .error x):x.1<=6/\(x.2=0\/x.2=s):=by
 have hg:opn2 t f s p= .error x->x.1<=6/\(x.2=0\/x.2=s):=by
  intro h;unfold opn2 at h
  split at h
  · cases p with
    |nil=>injection h with h;subst h;exact⟨Nat.le_refl _,.inl rfl⟩
    |cons c q=>
     simp only at h
     split at h
     · injection h with h;subst h;exact⟨by decide,.inl rfl⟩
     · exact rd_err h
  · exact rd_err h
 rcases opn_str t f s p with⟨_,_,e⟩|⟨_,_,e⟩|⟨_,_,e⟩|⟨_,_,e⟩|⟨_,e⟩
 · rw[e]at h;injection h with h;subst h;exact⟨by decide,.inl rfl⟩
 · rw[e]at h;injection h with h;subst h;exact⟨by decide,.inl rfl⟩
 · exact hg (e.symm.trans h)
 · exact hg (e.symm.trans h)
 · exact hg (e.symm.trans h)
theorem opn_rd {t f s:Nat} {p:List UInt8} {j:Inf} (h:opn t f s p= .ok j) (ht:¬(t=0\/t=1\/t=5)):rd (info0 t f s) p= .ok j:=by
 have h8:¬hasF t f 8=true:=by rw[has8,decide_eq_false ht];simp
 have hg:opn2 t f s p=rd (info0 t f s) p:=if_neg h8;rcases opn_str t f s p with⟨_,_,e⟩|⟨_,_,e⟩|⟨_,_,e⟩|⟨_,_,e⟩|⟨_,e⟩
 · rw[e]at h;cases h
 · rw[e]at h;cases h
 all_goals exact hg.symm.trans (e.symm.trans h)
theorem low_lt (n:Nat):low n<=2147483647:=by unfold low;omega
theorem opn_inc {f s:Nat} {p:List UInt8} {j:Inf} (h:opn 8 f s p= .ok j):1<=j.inc/\j.inc<=2147483647:=by
 have h:=opn_rd h (by decide);rw[rd_8 rfl]at h
 split at h
 · split at h
   · cases h
   · next hz=>
     injection h with h
     subst h;exact⟨Nat.pos_of_ne_zero hz,low_lt _⟩
 · cases h
theorem opn_sets {f s:Nat} {p:List UInt8} {j:Inf} (h:opn 4 f s p= .ok j):(∀x∈j.sets,x.1<=65535/\x.2<=4294967295)/\j.sets.length<=p.length:=by
 have h:=opn_rd h (by decide);rw[rd_4 rfl]at h
 split at h
 · cases h
 · cases hs:setsOf p with
   |error y=>rw[hs]at h;cases h
   |ok l=>
    rw[hs]at h;injection h with h
    subst h;exact setsOf_ok p l hs
theorem opn_ping {f s:Nat} {p:List UInt8} {j:Inf} (h:opn 6 f s p= .ok j):j={typ:=6,stream:=s,ack:=j.ack,data:=p}/\p.length=8:=by
 have h:=opn_rd h (by decide);rw[rd_6 rfl]at h
 split at h
 · next h8=>
   injection h with h
   subst h;refine⟨?_,h8⟩;have e4:hasF 6 f 4=false:=by rw[hasF_is];simp[rowOf]
   have e8:hasF 6 f 8=false:=by rw[hasF_is];simp[rowOf]
   have e32:hasF 6 f 32=false:=by rw[hasF_is];simp[rowOf]
   simp[info0,rowOf,e4,e8,e32]
 · cases h
theorem rd_one_len {i:Inf} {p:List UInt8} {j:Inf} (h1:i.typ=1) (h:rd i p= .ok j):j.data.length<=p.length:=by
 rw[rd_one h1,withDep_is]at h
 split at h
 · split at h
   · cases h
   · by_cases hd:(depI i p).dep=i.stream
     · rw[if_pos hd]at h;cases h
     · rw[if_neg hd]at h;injection h with h;subst h;simp
 · injection h with h;subst h;exact Nat.le_refl _
theorem opn_len {f s:Nat} {p:List UInt8} {j:Inf} (h:opn 1 f s p= .ok j):j.data.length<=p.length:=by
 have hg:opn2 1 f s p= .ok j->j.data.length<=p.length:=by
  intro h;unfold opn2 at h
  split at h
  · cases p with
    |nil=>cases h
    |cons c q=>
     simp only at h
     split at h
     · cases h
     · have:=rd_one_len (by rfl) h
       simp at this ⊢;omega
  · exact rd_one_len rfl h
 rcases opn_str 1 f s p with⟨_,_,e⟩|⟨_,_,e⟩|⟨_,_,e⟩|⟨_,_,e⟩|⟨_,e⟩
 · rw[e]at h;cases h
 · rw[e]at h;cases h
 all_goals exact hg (e.symm.trans h)
end Go.Proofs.YtkpppjhbmnfmkaaGreatDoor
