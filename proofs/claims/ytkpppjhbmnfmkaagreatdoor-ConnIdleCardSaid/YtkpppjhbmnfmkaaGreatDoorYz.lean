import Derived.Test.YtkpppjhbmnfmkaaGreatDoorYy
import Derived.Test.YtkpppjhbmnfmkaaGreatDoorJat
import Derived.Test.YtkpppjhbmnfmkaaGreatDoorJaf
set_option linter.unusedSimpArgs false
set_option linter.unusedVariables false
namespace Go.Proofs.YtkpppjhbmnfmkaaGreatDoor
open Go.RowKit Go.Own Go.Own.Im Go.Own.Cx Go.Own.Fr Go.Own.Hd
def hM (s:Nat) (ak:Bool):Cv:=if ak=true then{gM s 10 with acked:=true,window:=65535}else gM s 10
def iM (s:Nat) (ak:Bool):Cv:={hM s ak with out:=[]}
theorem gM_idle (s:Nat) (hs:s=1\/s=2):IdleM (gM s 10):=
 ⟨rfl,rfl,rfl,rfl,hs,rfl,by have:=gM_out s 10;omega,Nat.zero_le _,rfl,(show(0:Int)<=65535/\(65535:Int)<=2147483647 by decide),(show(0:Int)<=65535/\(65535:Int)<=2147483647 by decide),(show 0<10 by decide),rfl⟩
theorem iM_idle (s:Nat) (ak:Bool) (hs:s=1\/s=2):IdleM (iM s ak):=by
 cases ak
 · exact⟨rfl,rfl,rfl,rfl,hs,rfl,Nat.zero_le _,Nat.zero_le _,rfl,(show(0:Int)<=65535/\(65535:Int)<=2147483647 by decide),(show(0:Int)<=65535/\(65535:Int)<=2147483647 by decide),(show 0<10 by decide),rfl⟩
 · exact⟨rfl,rfl,rfl,rfl,hs,rfl,Nat.zero_le _,Nat.zero_le _,rfl,(show(0:Int)<=65535/\(65535:Int)<=2147483647 by decide),(show(0:Int)<=65535/\(65535:Int)<=2147483647 by decide),(show 0<10 by decide),rfl⟩
theorem iM_acked (s:Nat) (ak:Bool):(iM s ak).acked=ak:=by cases ak<;>rfl
theorem iM_side (s:Nat) (ak:Bool):(iM s ak).side=s:=by cases ak<;>rfl
theorem iM_code (s:Nat) (ak:Bool):(iM s ak).code=0:=by cases ak<;>rfl
theorem iM_dead (s:Nat) (ak:Bool):(iM s ak).dead=false:=by cases ak<;>rfl
theorem iM_pref (s:Nat) (ak:Bool):(iM s ak).preface=24:=by cases ak<;>rfl
theorem iM_fed (s:Nat) (ak:Bool):(iM s ak).fed=[]:=by cases ak<;>rfl
theorem iM_evs (s:Nat) (ak:Bool):(iM s ak).evs=[]:=by cases ak<;>rfl
theorem opn_ackf:opn 4 1 0 []= .ok {typ:=4,ack:=true}:=rfl
theorem runs_ack (s:Nat) (hs:s=1\/s=2):Runs 1 {gM s 10 with evs:=[],fed:=(gM s 10).fed++frameB 4 1 0 []} (λM'=>M'=hM s true):=
 runs_taken (M:=gM s 10) _ rfl rfl rfl rfl (by decide) (by decide) (by decide) (by decide) _ (λM' h=>by subst h;exact⟨rfl,rfl,rfl⟩) (idle_ack (gM_idle s hs) opn_ackf (by decide) (by decide) (by decide) rfl rfl)
theorem runs_iM (s:Nat) (ak:Bool) (hs:s=1\/s=2) {t f i:Nat} {p:List UInt8} (ht:t<=255) (hf:f<=255) (hi:i<=2147483647) (hp:p.length<=20000):
 Runs 1 {iM s ak with evs:=[],fed:=(iM s ak).fed++frameB t f i p} (IdleQ (idleC s t f i p ak) (iM s ak)):=by
 have h:=runs_idle (M:=iM s ak) {iM s ak with evs:=[],fed:=(iM s ak).fed++frameB t f i p} (iM_idle s ak hs) (iM_pref s ak) (iM_dead s ak) (by show(iM s ak).fed++_=_;rw[iM_fed];rfl) (by cases ak<;>rfl) ht hf hi hp;rw[iM_acked,iM_side]at h;exact h
end Go.Proofs.YtkpppjhbmnfmkaaGreatDoor
