/-
  Contract: unicode/utf8.word at bytes: the number that the first eight bytes spell.
-/
import Derived.Test.YtnahkhiomnkbcaaDoorUv
import Derived.Test.YtnahkhiomnkbcaaDoorVal
import Derived.Lib.Endian
import Derived.Lib.EndianBits
namespace Go.Proofs.YtnahkhiomnkbcaaDoor
open Go.RowKit Go.Own Go.Own.Wire

/-- The first bytes are below 128. -/
def AscL (l : List UInt8) (k : Nat) : Prop := ∀ b ∈ l.take k, b.toNat < 128
theorem take8L (l : List UInt8) (h : 8 ≤ l.length) : [l.getD 0 0, l.getD 1 0, l.getD 2 0, l.getD 3 0, l.getD 4 0, l.getD 5 0, l.getD 6 0, l.getD 7 0] = l.take 8 := by
  match l, h with
  | a0 :: a1 :: a2 :: a3 :: a4 :: a5 :: a6 :: a7 :: r, _ => simp
theorem word_ascL (l : List UInt8) (h : 8 ≤ l.length) : (Lib.leNat (l.take 8) &&& 9259542123273814144 = 0) ↔ AscL l 8 := by
  have h8 : (l.take 8).length = 8 := by rw [List.length_take]; omega
  have := Lib.leNat_mask (l.take 8)
  rw [h8, Lib.maskN8] at this
  exact this
theorem word_ltL (l : List UInt8) (h : 8 ≤ l.length) : Lib.leNat (l.take 8) < 18446744073709551616 := by
  have h8 : (l.take 8).length = 8 := by rw [List.length_take]; omega
  have := Lib.leNat_lt (l.take 8)
  rw [h8] at this
  simpa using this
theorem asc_addL (l : List UInt8) (a b : Nat) (ha : AscL l a) (hb : AscL (l.drop a) b) : AscL l (a + b) := by
  unfold AscL at *
  rw [List.take_add]
  intro x hx
  rcases List.mem_append.1 hx with h | h
  · exact ha x h
  · exact hb x h

set_option maxHeartbeats 8000000 in
set_option maxRecDepth 100000 in
theorem word_any (A : Option Addr) (n c : Nat) (l : List UInt8) (w : World) (B : Nat) (hr : Rd w B A n l) (hn : 8 ≤ n) :
    Calls Tryd.prog 44 #[.slice A n c] w fun e w' => e = .returned (.int .u64 (Lib.leNat (l.take 8) : Nat)) ∧ ∃ q, w' = w.drewN q := by
  obtain ⟨ad, rfl, hb, hcell⟩ := hr.2 (by omega)
  rw [← take8L l (by rw [hr.1]; exact hn)]
  have c0 := hcell 0 (by omega)
  rw [show ad.add 0 = ad from rfl] at c0
  have c1 := hcell 1 (by omega)
  rw [show ad.add 1 = ⟨ad.block, ad.off + 1, none⟩ from rfl] at c1
  have c2 := hcell 2 (by omega)
  rw [show ad.add 2 = ⟨ad.block, ad.off + 2, none⟩ from rfl] at c2
  have c3 := hcell 3 (by omega)
  rw [show ad.add 3 = ⟨ad.block, ad.off + 3, none⟩ from rfl] at c3
  have c4 := hcell 4 (by omega)
  rw [show ad.add 4 = ⟨ad.block, ad.off + 4, none⟩ from rfl] at c4
  have c5 := hcell 5 (by omega)
  rw [show ad.add 5 = ⟨ad.block, ad.off + 5, none⟩ from rfl] at c5
  have c6 := hcell 6 (by omega)
  rw [show ad.add 6 = ⟨ad.block, ad.off + 6, none⟩ from rfl] at c6
  have c7 := hcell 7 (by omega)
  rw [show ad.add 7 = ⟨ad.block, ad.off + 7, none⟩ from rfl] at c7
  have h0 := (l.getD 0 0).toNat_lt
  have h1 := (l.getD 1 0).toNat_lt
  have h2 := (l.getD 2 0).toNat_lt
  have h3 := (l.getD 3 0).toNat_lt
  have h4 := (l.getD 4 0).toNat_lt
  have h5 := (l.getD 5 0).toNat_lt
  have h6 := (l.getD 6 0).toNat_lt
  have h7 := (l.getD 7 0).toNat_lt
  have hv : ((Lib.leNat [l.getD 0 0, l.getD 1 0, l.getD 2 0, l.getD 3 0, l.getD 4 0, l.getD 5 0, l.getD 6 0, l.getD 7 0] : Nat) : Int) = ((l.getD 0 0).toNat : Int) + ((l.getD 1 0).toNat : Int) * 256 + ((l.getD 2 0).toNat : Int) * 65536 + ((l.getD 3 0).toNat : Int) * 16777216 + ((l.getD 4 0).toNat : Int) * 4294967296 + ((l.getD 5 0).toNat : Int) * 1099511627776 + ((l.getD 6 0).toNat : Int) * 281474976710656 + ((l.getD 7 0).toNat : Int) * 72057594037927936 := by
    simp only [Lib.leNat]
    push_cast
    omega
  rw [hv]
  clear hv hcell hr
  generalize (l.getD 0 0).toNat = x0 at *
  generalize (l.getD 1 0).toNat = x1 at *
  generalize (l.getD 2 0).toNat = x2 at *
  generalize (l.getD 3 0).toNat = x3 at *
  generalize (l.getD 4 0).toNat = x4 at *
  generalize (l.getD 5 0).toNat = x5 at *
  generalize (l.getD 6 0).toNat = x6 at *
  generalize (l.getD 7 0).toNat = x7 at *
  have q0 : (0 : Int) < (n : Int) := by omega
  have p0 : 0 < n := by omega
  have q1 : (1 : Int) < (n : Int) := by omega
  have p1 : 1 < n := by omega
  have q2 : (2 : Int) < (n : Int) := by omega
  have p2 : 2 < n := by omega
  have q3 : (3 : Int) < (n : Int) := by omega
  have p3 : 3 < n := by omega
  have q4 : (4 : Int) < (n : Int) := by omega
  have p4 : 4 < n := by omega
  have q5 : (5 : Int) < (n : Int) := by omega
  have p5 : 5 < n := by omega
  have q6 : (6 : Int) < (n : Int) := by omega
  have p6 : 6 < n := by omega
  have q7 : (7 : Int) < (n : Int) := by omega
  have p7 : 7 < n := by omega
  go_enter Tryd.func44, Tryd.ntmps44
  go_wp2
  go_quiet (fail)
  go_wp2
  go_ret
  refine ⟨?_, _, rfl⟩
  simp (disch := omega) only [u64_wrap_id, u64_or8, u64_or16, u64_or24, u64_or32, u64_or40, u64_or48, u64_or56]
  rfl
end Go.Proofs.YtnahkhiomnkbcaaDoor
