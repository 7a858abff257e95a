import Derived.Test.YtkpppjhbmnfmkaaGreatDoorMs
set_option linter.unusedSimpArgs false
set_option linter.unusedVariables false
namespace Go.Proofs.YtkpppjhbmnfmkaaGreatDoor
open Go.RowKit Go.Own Go.Own.Im Go.Own.Cx Go.Own.Fr Go.Own.Hd
theorem connPieces_any (w:World) {a1 a2:Addr} (hE:EnvS w a1 a2) (side cw cs:Int) (st:Bool) (A:Option Addr) (n c:Nat) (l:List UInt8) (hr:Rd w w.heap.size A n l) (A2:Option Addr) (m c2:Nat) (zs:List Int) (hz:Ri w w.heap.size A2 m zs):
 Calls Tryz.prog 4 #[.int .i64 side,.agg #[.int .i64 cw,.int .i64 cs],.bool st,.slice A n c,.slice A2 m c2] w λe w'=>e= .returned (.bool true)/\Below w.heap.size w w':=by
 by_cases h0:16384<n\/200<m
 · exact pieces_big w hE.wd side cw cs st A n c A2 m c2 h0
 have hn:n<=16384:=by omega
 have hm:m<=200:=by omega
 by_cases hs:side=1\/side=2
 · by_cases hb:badC cw cs
   · exact pieces_none w side cw cs st A n c A2 m c2 a2 hE hn hm λW hW=>new_number W side cw cs hW hs hb
   · have h1:0<=cw/\cw<=2147483647/\0<=cs/\cs<=100:=by
      unfold badC at hb;omega
     obtain⟨cw,rfl⟩:=Int.eq_ofNat_of_zero_le h1.1;obtain⟨cs,rfl⟩:=Int.eq_ofNat_of_zero_le h1.2.2.1;rcases hs with rfl|rfl
     · exact pieces_ok w hE 1 cw cs (.inl rfl) (by omega) (by omega) st A n c l hr hn A2 m c2 zs hz hm
     · exact pieces_ok w hE 2 cw cs (.inr rfl) (by omega) (by omega) st A n c l hr hn A2 m c2 zs hz hm
 · exact pieces_none w side cw cs st A n c A2 m c2 a1 hE hn hm λW hW=>new_role W side cw cs hW (λh=>hs (.inl h)) (λh=>hs (.inr h))
end Go.Proofs.YtkpppjhbmnfmkaaGreatDoor
