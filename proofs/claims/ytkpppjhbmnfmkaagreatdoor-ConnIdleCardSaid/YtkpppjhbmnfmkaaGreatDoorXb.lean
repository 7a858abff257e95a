import Derived.Test.YtkpppjhbmnfmkaaGreatDoorXa
set_option linter.unusedSimpArgs false
set_option linter.unusedVariables false
set_option maxHeartbeats 16000000
set_option maxRecDepth 100000
namespace Go.Proofs.YtkpppjhbmnfmkaaGreatDoor
open Lib (hid)
open Go.RowKit Go.Own Go.Own.Im Go.Own.Cx Go.Own.Fr Go.Own.Hd
theorem idle_out (w:World) (hW:EnvW w) (side t f i:Int) (A:Option Addr) (n c:Nat) (ak:Bool) (h:i<0\/2147483647<i\/t<0\/255<t\/f<0\/255<f\/20000<n):
 Calls Tryz.prog 3 #[.int .i64 side,.agg #[.int .i64 t,.int .i64 f,.int .i64 i,.slice A n c],.bool ak] w λe w'=>e= .returned (.bool true)/\Below w.heap.size w w':=by
 have HW:=hid hW;have k:(((i<0)=True))\/(((i<0)=False)/\((2147483647<i)=True))\/(((i<0)=False)/\((2147483647<i)=False)/\((t<0)=True))\/(((i<0)=False)/\((2147483647<i)=False)/\((t<0)=False)/\((255<t)=True))\/(((i<0)=False)/\((2147483647<i)=False)/\((t<0)=False)/\((255<t)=False)/\((f<0)=True))\/(((i<0)=False)/\((2147483647<i)=False)/\((t<0)=False)/\((255<t)=False)/\((f<0)=False)/\((255<f)=True))\/(((i<0)=False)/\((2147483647<i)=False)/\((t<0)=False)/\((255<t)=False)/\((f<0)=False)/\((255<f)=False)/\(((20000:Int)<(n:Int))=True)):=by
  simp only[eq_iff_iff,iff_true,iff_false];omega
 clear h hW;rcases k with k0|⟨k0,k1⟩|⟨k0,k1,k2⟩|⟨k0,k1,k2,k3⟩|⟨k0,k1,k2,k3,k4⟩|⟨k0,k1,k2,k3,k4,k5⟩|⟨k0,k1,k2,k3,k4,k5,k6⟩
 all_goals
  go_enter Tryz.func3,Tryz.ntmps3;go_upto_region 1 with fail;obtain⟨X,hX,hF,h4⟩:∃X,w.alloc (.cells #[.int .i64 t,.int .i64 f,.int .i64 i,.slice A n c] 24)=X/\Blk X w.heap.size 24 #[.int .i64 t,.int .i64 f,.int .i64 i,.slice A n c]/\Below w.heap.size w X:=⟨_,rfl,Blk.new w _ _,(Below.refl _ _).alloc (Nat.le_refl _) _⟩;rw[hX];have h2:=hid hF;have h0:=hid h4;clear hX hF h4;go_wp2_with fail;refine(first_any X (HW.out.below h0.out)).mono ?_;rintro e w1 ⟨rfl,h3⟩;have h5:=hid (h0.out.trans (h3.mono h0.out.size));have h1:=hid (h2.out.below h3 h2.out.lt);clear h3 h2 h0;have x0:w1.cell? ⟨w.heap.size,0,none⟩=some (.int .i64 t):=h1.out.cell 0;have x1:w1.cell? ⟨w.heap.size,1,none⟩=some (.int .i64 f):=h1.out.cell 1;have x2:w1.cell? ⟨w.heap.size,2,none⟩=some (.int .i64 i):=h1.out.cell 2;have x3:w1.cell? ⟨w.heap.size,3,none⟩=some (.slice A n c):=h1.out.cell 3;go_wp2_with fail;go_ret;exact⟨rfl,h5.out⟩
end Go.Proofs.YtkpppjhbmnfmkaaGreatDoor
