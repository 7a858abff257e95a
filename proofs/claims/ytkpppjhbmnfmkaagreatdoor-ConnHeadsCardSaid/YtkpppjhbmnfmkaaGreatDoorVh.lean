import Derived.Test.YtkpppjhbmnfmkaaGreatDoorKu
import Derived.Test.YtkpppjhbmnfmkaaGreatDoorJay
import Derived.Test.YtkpppjhbmnfmkaaGreatDoorJae
import Derived.Test.YtkpppjhbmnfmkaaGreatDoorJac
set_option linter.unusedSimpArgs false
set_option linter.unusedVariables false
namespace Go.Proofs.YtkpppjhbmnfmkaaGreatDoor
open Go.RowKit Go.Own Go.Own.Im Go.Own.Cx Go.Own.Fr Go.Own.Hd
def g00:Cv:=setM {newM 2 65535 10 with preface:=24,fed:=[]}
def g0:Cv:={g00 with evs:=[],out:=[]}
theorem runs_g:Runs 26 {newM 2 65535 10 with evs:=[],fed:=(newM 2 65535 10).fed++(prefB++frameB 4 0 0 [])} (λM'=>M'=g00):=
 runs_hello2 (newM 2 65535 10) rfl rfl (by decide) (by decide)
def g1 (id:Nat) (fin:Bool) (l:List UInt8):Cv:={g0 with list:=some (id,fin,l)}
theorem dfl_255 (fin:Bool):dfl fin<=255:=by cases fin<;>decide
theorem runs_g1 (id pad:Nat) (fin:Bool) (l:List UInt8) (h0:id % 2=1) (hid:id<=2147483647) (hp:pad<=63) (hn:l.length<=16320):
 Runs 1 {g0 with evs:=[],fed:=g0.fed++frameB 1 (dfl fin) id (padB pad l)} (λM'=>M'=g1 id fin l):=by
 have h2:=padB_len pad l;refine .more rfl (step_takes _ (λM'=>M'=g1 id fin l) 1 (dfl fin) id (padB pad l) [] rfl (by show[]++_=_;rw[List.nil_append,List.append_nil]) (by decide) (dfl_255 fin) hid (by omega) (takes_padbegin g0 id pad fin l rfl rfl rfl h0 hid hp hn)) λM1 h1=>?_;subst h1;exact .stop rfl ((step_few (g1 id fin l) rfl (by show([]:List UInt8).length<9;decide)).mono λM' h'=>h')
theorem known_g1 (id:Nat) (fin:Bool) (l:List UInt8) (h0:id≠0):knownB (g1 id fin l) id=false:=by
 unfold knownB;have:¬(id % 2=1/\id<=(g1 id fin l).last):=by
  intro h;have h2:id<=0:=h.2;omega
 first|exact decide_eq_false this|simp[this]
theorem open_nil:openS rules4 [] req0=none:=by rw[rules4_c];rfl
theorem open_pos {hs:List HdrV} (h:(openS rules4 hs req0).isSome=true):0<hs.length:=by
 cases hs with
 |nil=>rw[open_nil]at h;cases h
 |cons _ _=>simp
def g2 (id:Nat) (fin:Bool) (l:List UInt8) (hs:List HdrV) (t':Hk.TM) (A:Option Addr) (c:Nat):Cv:=doneM (g1 id fin l) id fin hs t' A c
theorem runs_g2 (id:Nat) (fin:Bool) (l0 l:List UInt8) (hs:List HdrV) (t':Hk.TM) (h0:id≠0) (hid:id<=2147483647) (hn:l0.length+l.length<=16384) (h2:Hk.decP {} (l0++l)=some (hs,t')) (ho:(openS rules4 hs req0).isSome=true):
 Runs 1 {g1 id fin l0 with evs:=[],fed:=(g1 id fin l0).fed++frameB 9 4 id l} (λM'=>∃A c,M'=g2 id fin l0 hs t' A c):=by
 refine .more rfl (step_takes _ (λM'=>∃A c,M'=g2 id fin l0 hs t' A c) 9 4 id l [] rfl (by show[]++_=_;rw[List.nil_append,List.append_nil]) (by decide) (by decide) hid (by omega) (takes_lastok (g1 id fin l0) id fin l0 l hs t' rfl rfl rfl rfl h0 hid (known_g1 id fin l0 h0) rfl hn h2 (λs hs=>by cases hs) (by show(0:Int)<10;decide) rfl ⟨by show(0:Int)<=65535;decide,by show(65535:Int)<=2147483647;decide⟩ ⟨by show(0:Int)<=65535;decide,by show(65535:Int)<=2147483647;decide⟩ (Nat.zero_le _) List.nodup_nil (open_pos ho) (Nat.zero_le _) ho)) λM1 h1=>?_;obtain⟨A,c,rfl⟩:=h1;exact .stop rfl ((step_few (g2 id fin l0 hs t' A c) rfl (by show([]:List UInt8).length<9;decide)).mono λM' h'=>⟨A,c,h'⟩)
def g3 (id:Nat) (fin:Bool) (l:List UInt8) (t':Hk.TM):Cv:=badM (g1 id fin l) id t'
theorem runs_g3 (id:Nat) (fin:Bool) (l0 l:List UInt8) (hs:List HdrV) (t':Hk.TM) (h0:id≠0) (hid:id<=2147483647) (hn:l0.length+l.length<=16384) (h2:Hk.decP {} (l0++l)=some (hs,t')) (ho:openS rules4 hs req0=none):
 Runs 1 {g1 id fin l0 with evs:=[],fed:=(g1 id fin l0).fed++frameB 9 4 id l} (λM'=>M'=g3 id fin l0 t'):=by
 refine .more rfl (step_takes _ (λM'=>M'=g3 id fin l0 t') 9 4 id l [] rfl (by show[]++_=_;rw[List.nil_append,List.append_nil]) (by decide) (by decide) hid (by omega) (takes_lastbad (g1 id fin l0) id fin l0 l hs t' rfl rfl rfl rfl h0 hid (known_g1 id fin l0 h0) rfl hn h2 (by show(0:Int)<10;decide) rfl (by show(0:Nat)<=1000000000;decide) ho)) λM1 h1=>?_;subst h1;exact .stop rfl ((step_few (g3 id fin l0 t') rfl (by show([]:List UInt8).length<9;decide)).mono λM' h'=>h')
def g4 (id:Nat) (fin:Bool) (l:List UInt8) (hs:List HdrV) (t':Hk.TM) (A:Option Addr) (c:Nat):Cv:={g2 id fin l hs t' A c with evs:=[],out:=[]}
theorem g2_strs (id:Nat) (fin:Bool) (l:List UInt8) (hs:List HdrV) (t':Hk.TM) (A:Option Addr) (c:Nat):(g2 id fin l hs t' A c).strs=[endS {id:=id,other:=1,inw:=65535,outw:=65535} fin]:=rfl
theorem g2_id (id:Nat) (fin:Bool):(endS ({id:=id,other:=1,inw:=65535,outw:=65535}:Sv) fin).id=id:=by cases fin<;>rfl
theorem g2_still (id:Nat) (fin:Bool):Still (endS ({id:=id,other:=1,inw:=65535,outw:=65535}:Sv) fin):=by cases fin<;>exact⟨rfl,(show(0:Nat)≠2 by decide)⟩
def hEv (id:Nat) (fin:Bool) (hs:List HdrV) (A:Option Addr) (c:Nat):EvV:={kind:=1,stream:=id,fin:=fin,la:=A,lc:=c,l:=hs}
theorem g2_evs (id:Nat) (fin:Bool) (l:List UInt8) (hs:List HdrV) (t':Hk.TM) (A:Option Addr) (c:Nat):(g2 id fin l hs t' A c).evs=[hEv id fin hs A c]:=rfl
theorem g3_out (id:Nat) (fin:Bool) (l:List UInt8) (t':Hk.TM):(g3 id fin l t').out=frameB 3 0 id (be 1 4):=rfl
end Go.Proofs.YtkpppjhbmnfmkaaGreatDoor
