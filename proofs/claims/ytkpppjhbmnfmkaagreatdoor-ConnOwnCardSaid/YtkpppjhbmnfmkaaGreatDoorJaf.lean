/-
  
  
-/
import Derived.Test.YtkpppjhbmnfmkaaGreatDoorJaa
set_option linter.unusedSimpArgs false
set_option linter.unusedVariables false
section
namespace Go.Own.Fr
open Go Go.RowKit
theorem ofInt_i64 (a:Nat) (ha:a<9223372036854775808):(BitVec.ofInt 64 (a:Int)).toNat=a:=by
 rw[BitVec.ofInt_natCast,BitVec.toNat_ofNat];exact Nat.mod_eq_of_lt (by omega)
theorem or_nat (a b:Nat) (ha:a<9223372036854775808) (hb:b<9223372036854775808):bits .or .i64 (a:Int) (b:Int)=((a|||b:Nat):Int):=by
 have hx:a|||b<2^63:=Nat.or_lt_two_pow (by omega) (by omega)
 show IntKind.i64.wrap ((BitVec.ofInt 64 (a:Int)|||BitVec.ofInt 64 (b:Int)).toNat:Int)=_;rw[BitVec.toNat_or,ofInt_i64 a ha,ofInt_i64 b hb,IntKind.wrap_i64];omega
theorem and_nat (a b:Nat) (ha:a<9223372036854775808) (hb:b<9223372036854775808):bits .and .i64 (a:Int) (b:Int)=((a&&& b:Nat):Int):=by
 have hx:a&&& b<=a:=Nat.and_le_left;show IntKind.i64.wrap ((BitVec.ofInt 64 (a:Int)&&& BitVec.ofInt 64 (b:Int)).toNat:Int)=_;rw[BitVec.toNat_and,ofInt_i64 a ha,ofInt_i64 b hb,IntKind.wrap_i64];omega
theorem and_low (n:Nat) (h:n<9223372036854775808):bits .and .i64 (n:Int) 2147483647=((n % 2147483648:Nat):Int):=by
 have:=and_nat n 2147483647 h (by omega);rw[show n&&& 2147483647=n % 2147483648 from Nat.and_two_pow_sub_one_eq_mod n 31]at this;exact this
end Go.Own.Fr
end

section
namespace Go.Own.Fr
open Go Go.RowKit
end Go.Own.Fr
end
