/-
  Contracts: strconv.ParseUint of two bytes at base 16.
-/
import Derived.Test.YtoafmhbgbofgoaaGreatDoorG1
import Derived.Test.YtoafmhbgbofgoaaGreatDoorHex
import Derived.Test.YtoafmhbgbofgoaaGreatDoorRow
import Derived.LoopTactic
namespace Go.Proofs.YtoafmhbgbofgoaaGreatDoor.Gp
open Go.RowKit Go.Own Go.Own.Grpc

theorem lower_any (c : Int) (w : World) : Calls Tryz.prog 95 #[.int .u8 c] w fun e w' => e = .returned (.int .u8 (bits .or .u8 c 32)) ∧ w = w' := by
  go_enter Tryz.func95, Tryz.ntmps95
  go_wp2
  go_ret
  exact ⟨rfl, rfl⟩

theorem u8_or_32 (c : Nat) (hc : c < 256) : bits .or .u8 (c : Int) 32 = (((c ||| 32 : Nat)) : Int) := by
  have hx := low_lt c hc
  show IntKind.u8.wrap ((BitVec.ofInt 8 (c : Int) ||| BitVec.ofInt 8 (32 : Int)).toNat : Int) = _
  rw [BitVec.toNat_or, BitVec.ofInt_natCast, BitVec.toNat_ofNat, Nat.mod_eq_of_lt (by omega), show (BitVec.ofInt 8 (32 : Int)).toNat = 32 from rfl, IntKind.wrap_u8]
  omega

theorem lower_at (c o : Nat) (hc : c < 256) (ho : (c ||| 32) = o) (w : World) : Calls Tryz.prog 95 #[.int .u8 (c : Int)] w fun e w' => e = .returned (.int .u8 (o : Int)) ∧ w = w' := by
  have := lower_any (c : Int) w
  rw [u8_or_32 c hc, ho] at this
  exact this

/-- What is answered of two bytes. -/
def PuPost (T : TypeId) (x0 x1 : Nat) (w : World) (e : Ending) (w' : World) : Prop :=
  e = .returned (.tuple #[.int .u64 (if nib x0 < 16 ∧ nib x1 < 16 then ((16 * nib x0 + nib x1 : Nat) : Int) else 0), if nib x0 < 16 ∧ nib x1 < 16 then .nilIface else .iface T (.int .i64 2)]) ∧ Below w.heap.size w w'
theorem pu_yes {T : TypeId} {x0 x1 : Nat} {w w' : World} {v : Int} (h0 : nib x0 < 16) (h1 : nib x1 < 16) (hv : v = ((16 * nib x0 + nib x1 : Nat) : Int)) (hb : Below w.heap.size w w') : PuPost T x0 x1 w (.returned (.tuple #[.int .u64 v, .nilIface])) w' := by
  subst hv
  exact ⟨by rw [if_pos ⟨h0, h1⟩, if_pos ⟨h0, h1⟩], hb⟩
theorem pu_no {T : TypeId} {x0 x1 : Nat} {w w' : World} (h : ¬ (nib x0 < 16 ∧ nib x1 < 16)) (hb : Below w.heap.size w w') : PuPost T x0 x1 w (.returned (.tuple #[.int .u64 0, .iface T (.int .i64 2)])) w' :=
  ⟨by rw [if_neg h, if_neg h], hb⟩

/-- The digits that are read so far. -/
def Good (X : Nat → Nat) (k n : Nat) : Prop := (k = 0 ∧ n = 0) ∨ (k = 1 ∧ nib (X 0) < 16 ∧ n = nib (X 0)) ∨ (k = 2 ∧ nib (X 0) < 16 ∧ nib (X 1) < 16 ∧ n = 16 * nib (X 0) + nib (X 1))
theorem Good.next {X : Nat → Nat} {k n d : Nat} (h : Good X k n) (hk : k < 2) (hd : nib (X k) = d) (h16 : d < 16) : Good X (k + 1) (n * 16 + d) := by
  rcases h with ⟨rfl, rfl⟩ | ⟨rfl, h1, rfl⟩ | ⟨rfl, _⟩
  · exact .inr (.inl ⟨rfl, by omega, by omega⟩)
  · exact .inr (.inr ⟨rfl, h1, by omega, by omega⟩)
  · omega
theorem Good.lt {X : Nat → Nat} {k n : Nat} (h : Good X k n) : n < 256 := by
  rcases h with ⟨_, rfl⟩ | ⟨_, h1, rfl⟩ | ⟨_, h1, h2, rfl⟩ <;> omega
theorem Good.bad {X : Nat → Nat} {k n : Nat} (h : Good X k n) (hk : k < 2) (hd : nib (X k) = 99) : ¬ (nib (X 0) < 16 ∧ nib (X 1) < 16) := by
  rcases h with ⟨rfl, _⟩ | ⟨rfl, _⟩ | ⟨rfl, _⟩ <;> omega

set_option maxHeartbeats 4000000 in
set_option maxRecDepth 100000 in
theorem inner_core (t : ByteArray) (X : Nat → Nat) (w W1 : World) (cap : Nat) (hne : t.toList.isEmpty = false) (hx : Hid (∀ j, X j < 256))
    (hcv : (convert 9 53 (.string t)).run Tryz.prog w = .ok (.slice (some ⟨w.heap.size, 0, none⟩) 2 cap) W1) (hB : Hid (∀ j, j < 2 → W1.cell? ⟨w.heap.size, j, none⟩ = some (.int .u8 (X j : Int)))) (hb : Hid (Below w.heap.size w W1)) :
    Calls Tryz.prog 74 #[.string t, .int .i64 16, .int .i64 8] w (PuPost 121 (X 0) (X 1) w) := by
  go_enter Tryz.func74, Tryz.ntmps74
  go_wp2
  generalize hC' : (1152921504606846976 : Int) = C
  have hC : 1000 ≤ C := by rw [← hC']; decide
  clear hC'
  go_loop [12, 13, 101] (fun us nv i => ∃ (k n : Nat), k ≤ 2 ∧ i = .int .i64 k ∧ us = .bool false ∧ nv = .int .u64 n ∧ n < 256 ∧ Hid (Good X k n)) (fun _ _ i => 2 - (intOf i).toNat)
  case atStart => exact ⟨0, 0, by omega, rfl, rfl, rfl, by omega, .inl ⟨rfl, rfl⟩⟩
  case round =>
    obtain ⟨k, n, hk, rfl, rfl, rfl, hn, hgood⟩ := hrel
    by_cases hlt : k < 2
    · have hcell := hB.out k hlt
      obtain ⟨c, hc⟩ : ∃ c, X k = c := ⟨_, rfl⟩
      rw [hc] at hcell
      have hc256 : c < 256 := by rw [← hc]; exact hx.out k
      have HC := Lib.hid hc
      clear hc
      by_cases hd : 48 ≤ c ∧ c ≤ 57
      · have hnib := low_dig c hd
        obtain ⟨d1, d2⟩ := hd
        have hgn := hgood.next (d := c - 48) hlt (by rw [HC.out]; exact hnib) (by omega)
        have hlt2 := hgn.lt
        have hi2 : (n : Int) * 16 + ((c : Int) - 48) ≤ 255 := by omega
        have HGN := Lib.hid hgn
        clear hgn hnib hlt2
        go_wp2
        exact ⟨⟨k + 1, n * 16 + (c - 48), by omega, rfl, rfl, congrArg (Value.int .u64) (by omega), by omega, HGN.out⟩, by simp [intOf]; omega⟩
      · obtain ⟨o, ho⟩ : ∃ o, (c ||| 32) = o := ⟨_, rfl⟩
        have ho256 : o < 256 := by rw [← ho]; exact low_lt c hc256
        by_cases hl : 97 ≤ o ∧ o ≤ 102
        · have hnib := low_yes c hc256 hd (by rw [ho]; exact hl.1) (by rw [ho]; exact hl.2)
          rw [ho] at hnib
          obtain ⟨l1, l2⟩ := hl
          have hgn := hgood.next (d := o - 87) hlt (by rw [HC.out]; exact hnib) (by omega)
          have hlt2 := hgn.lt
          have hi2 : (n : Int) * 16 + ((o : Int) - 97 + 10) ≤ 255 := by omega
          have HGN := Lib.hid hgn
          have HO := Lib.hid ho
          have hc95 : c < 48 ∨ 57 < c := by omega
          have h95 : ((c : Int) == 95) = false := by
            have : c ≠ 95 := by
              rintro rfl
              have := HO.out
              rw [show 95 ||| 32 = 127 from rfl] at this
              omega
            simp; omega
          clear hgn hnib hlt2 ho hd
          go_wp2_with ((with_reducible refine (lower_at c o hc256 HO.out _).mono ?_); rintro e w' ⟨rfl, rfl⟩)
          all_goals exact ⟨⟨k + 1, n * 16 + (o - 87), by omega, rfl, rfl, congrArg (Value.int .u64) (by omega), by omega, HGN.out⟩, by simp [intOf]; omega⟩
        · have hnib := low_no c hc256 hd (by rw [ho]; exact hl)
          have HBAD := Lib.hid (hgood.bad hlt (by rw [HC.out]; exact hnib))
          have HO := Lib.hid ho
          have hc95 : c < 48 ∨ 57 < c := by omega
          have hlo : o < 97 ∨ 102 < o := by omega
          obtain ⟨b95, h95⟩ : ∃ b, ((c : Int) == 95) = b := ⟨_, rfl⟩
          clear hnib ho hd hl hgood
          by_cases h122 : 97 ≤ o ∧ o ≤ 122
          · obtain ⟨l1, l2⟩ := h122
            have l3 : 102 < o := by omega
            clear hlo
            go_wp2_with ((with_reducible refine (lower_at c o hc256 HO.out _).mono ?_); rintro e w' ⟨rfl, rfl⟩)
            all_goals
              go_ret2
              exact pu_no HBAD.out hb.out
          · go_wp2_with ((with_reducible refine (lower_at c o hc256 HO.out _).mono ?_); rintro e w' ⟨rfl, rfl⟩)
            all_goals
              go_ret2
              exact pu_no HBAD.out hb.out
    · have hk2 : k = 2 := by omega
      have HG := hgood
      subst hk2
      go_wp2
      go_ret2
      rcases HG.out with ⟨h, _⟩ | ⟨h, _⟩ | ⟨_, g1, g2, g3⟩
      · omega
      · omega
      · exact pu_yes g1 g2 (by rw [g3]) hb.out
theorem two_bytes (a b : UInt8) : (ByteArray.mk #[a, b]).toList.isEmpty = false := by
  simp [ByteArray.toList, ByteArray.toList.loop, ByteArray.size]
end Go.Proofs.YtoafmhbgbofgoaaGreatDoor.Gp
