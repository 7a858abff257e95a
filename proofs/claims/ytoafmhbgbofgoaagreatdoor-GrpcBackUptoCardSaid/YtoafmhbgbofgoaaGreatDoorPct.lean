/-
  Contracts: grpc.Percent.
-/
import Derived.Test.YtoafmhbgbofgoaaGreatDoorUnp
import Derived.Deep.RegionHeld3
import Derived.Outline
namespace Go.Own
open Go.RowKit
/-- A sign of the hexadecimal digits, as a text. -/
theorem hex_at {P : Program} {t : TypeId} (ht : P.underlying t = some .string) (n : Nat) (hn : n < 16) (x y : Int) (hx : x = (n : Int)) (hy : y = (n : Int) + 1) (W : World) :
    (Instr.slice t (.string ⟨#[48, 49, 50, 51, 52, 53, 54, 55, 56, 57, 65, 66, 67, 68, 69, 70]⟩) (some (.int .u8 x)) (some (.int .u8 y)) none).run P W = .ok (.string ⟨#[Grpc.gr n]⟩) W := by
  subst hx hy
  have h := run_slice_string_if (P := P) (w := W) t ⟨#[48, 49, 50, 51, 52, 53, 54, 55, 56, 57, 65, 66, 67, 68, 69, 70]⟩ .u8 .u8 (n : Int) ((n : Int) + 1) ht
  rw [h, if_pos ⟨by omega, by rw [show (ByteArray.mk #[48, 49, 50, 51, 52, 53, 54, 55, 56, 57, 65, 66, 67, 68, 69, 70]).size = 16 from rfl]; omega⟩, if_pos (by omega)]
  clear h
  congr 2
  rw [show ((n : Int) + 1).toNat = n + 1 by omega, Int.toNat_natCast]
  have key : ∀ n < 16, ((ByteArray.mk #[48, 49, 50, 51, 52, 53, 54, 55, 56, 57, 65, 66, 67, 68, 69, 70]).extract n (n + 1)).data.toList = [Grpc.gr n] := by decide +kernel
  apply ByteArray.ext
  apply Array.ext'
  exact key n hn
theorem u8_and_15 (c : Nat) (hc : c < 256) : bits .and .u8 (c : Int) 15 = (c : Int) % 16 := by
  show IntKind.u8.wrap ((BitVec.ofInt 8 (c : Int) &&& BitVec.ofInt 8 (15 : Int)).toNat : Int) = _
  rw [BitVec.toNat_and, BitVec.ofInt_natCast, BitVec.toNat_ofNat, Nat.mod_eq_of_lt (by omega), show (BitVec.ofInt 8 (15 : Int)).toNat = 2 ^ 4 - 1 from rfl, Nat.and_two_pow_sub_one_eq_mod, IntKind.wrap_u8]
  omega
theorem u8_keep (n : Int) (h0 : 0 ≤ n) (h1 : n < 256) : IntKind.u8.wrap n = n := by rw [IntKind.wrap_u8]; omega
end Go.Own
namespace Go.Proofs.YtoafmhbgbofgoaaGreatDoor.Gp
open Go.RowKit Go.Own Go.Own.Grpc

set_option maxHeartbeats 2000000 in
set_option maxRecDepth 100000 in
theorem percent_any (t : ByteArray) (w : World) (e1 e2 e3 e4 : Addr) (he : EnvG w e1 e2 e3 e4) (hsz : t.size ≤ 1000000000) :
    Calls Tryz.prog 42 #[.string t] w fun e w' => e = .returned (.string ⟨(pct t.data.toList).toArray⟩) ∧ Below w.heap.size w w' := by
  have HE := Lib.hid he
  clear he
  go_enter Tryz.func42, Tryz.ntmps42
  go_wp2
  go_loopw [8] (fun i wr => ∃ (k : Nat), k ≤ t.size ∧ i = .int .i64 k ∧ Hid (IsB w.heap.size w.heap.size (pct (t.data.toList.take k)) wr) ∧ Hid (Below w.heap.size w wr)) (fun i _ => t.size - (intOf i).toNat)
  case atStart => exact ⟨0, by omega, rfl, Lib.hid (Lib.fresh_isBuilder _ _ _), Lib.hid ((Below.refl _ _).alloc (Nat.le_refl _) _)⟩
  case round =>
    obtain ⟨k, hk, rfl, HI, HB⟩ := hrel
    by_cases hlt : k < t.size
    · have hi0 := idx_str (P := Tryz.prog) Tryz.underlying9 t k (k : Int) rfl hlt
      obtain ⟨c, hc⟩ : ∃ c, t.data.toList.getD k 0 = c := ⟨_, rfl⟩
      rw [hc] at hi0
      have HN : Hid (pct (t.data.toList.take (k + 1)) = pct (t.data.toList.take k) ++ pcB c) := Lib.hid (by
        rw [List.take_succ_eq_append_getElem (show k < t.data.toList.length from hlt), pct_append]
        have : t.data.toList.getD k 0 = t.data.toList[k]'(show k < t.data.toList.length from hlt) := by
          rw [List.getD, List.getElem?_eq_getElem (show k < t.data.toList.length from hlt)]
          rfl
        rw [← this, hc]
        simp only [pct, List.append_nil])
      have hBw : w.heap.size ≤ wr.heap.size := HB.out.size
      obtain ⟨x, hx⟩ : ∃ x, c.toNat = x := ⟨_, rfl⟩
      have hx256 : x < 256 := by rw [← hx]; exact c.toNat_lt
      rw [hx] at hi0
      have HX := Lib.hid hx
      have hol : (pct (t.data.toList.take k)).length ≤ 3000000000 := by
        have h1 := pct_len (t.data.toList.take k)
        have h2 : (t.data.toList.take k).length ≤ k := List.length_take_le _ _
        omega
      generalize pct (t.data.toList.take k) = out at *
      clear hc hx
      by_cases hp : 32 ≤ x ∧ x ≤ 126 ∧ x ≠ 37
      · have HPB : Hid (pcB c = [c]) := Lib.hid (by unfold pcB plainB; rw [HX.out, if_pos (by simpa using hp)])
        obtain ⟨p1, p2, p3⟩ := hp
        have t0 : ((x : Int) != 37) = true := by simp; omega
        have hwc := writeByte_any w.heap.size w.heap.size out c wr HI.out (by omega) hBw
        rw [HX.out] at hwc
        have HW := Lib.hid hwc
        clear hwc p3
        go_wp2_with fail
        refine HW.out.mono ?_
        rintro e w2 ⟨rfl, h1, hb2⟩
        have HI2 : Hid (IsB w.heap.size w.heap.size (pct (t.data.toList.take (k + 1))) w2) := Lib.hid (by rw [HN.out, HPB.out]; exact .inr h1)
        have HB2 := Lib.hid (HB.out.trans hb2)
        clear h1 hb2 t0
        go_wp2
        exact ⟨⟨k + 1, by omega, by go_num, HI2, HB2⟩, by simp [intOf]; omega⟩
      · have HPB : Hid (pcB c = [37, gr (x / 16), gr (x % 16)]) := Lib.hid (by unfold pcB plainB; rw [HX.out, if_neg (by simpa using hp)])
        have hcs : x < 32 ∨ 126 < x ∨ (32 ≤ x ∧ x ≤ 126 ∧ ((x : Int) != 37) = false) := by
          by_cases h1 : x < 32
          · exact .inl h1
          · by_cases h2 : 126 < x
            · exact .inr (.inl h2)
            · refine .inr (.inr ⟨by omega, by omega, ?_⟩)
              have : x = 37 := by omega
              subst this
              rfl
        have r1 := hex_at (P := Tryz.prog) Tryz.underlying9 (x / 16) (by omega) ((x : Int) / 16) ((x : Int) / 16 + 1) (by omega) (by omega)
        have r2 := hex_at (P := Tryz.prog) Tryz.underlying9 (x % 16) (by omega) ((x : Int) % 16) ((x : Int) % 16 + 1) (by omega) (by omega)
        clear hp
        rcases hcs with hd | hd | ⟨hd1, hd2, hd3⟩
        all_goals
          go_wp2_with fail
          have q1 : IntKind.u8.wrap ((x : Int) / 16 + 1) = (x : Int) / 16 + 1 := u8_keep _ (by omega) (by omega)
          have q2 : IntKind.u8.wrap ((x : Int) % 16 + 1) = (x : Int) % 16 + 1 := u8_keep _ (by omega) (by omega)
          have q3 := u8_and_15 x hx256
          have HW := Lib.hid (writeString_any w.heap.size w.heap.size out (⟨#[37]⟩ ++ ⟨#[gr (x / 16)]⟩ ++ ⟨#[gr (x % 16)]⟩) wr.drew (by exact HI.out) (by rw [show ((⟨#[37]⟩ : ByteArray) ++ ⟨#[gr (x / 16)]⟩ ++ ⟨#[gr (x % 16)]⟩).size = 3 from rfl]; omega) hBw)
          go_region_held3 (fun _ => True) (trivial) (first
            | (go_simp; go_at_call 65; refine HW.out.mono ?_; rintro e w2 ⟨rfl, h1, hb2⟩)
            | fail)
          have HI2 : Hid (IsB w.heap.size w.heap.size (pct (t.data.toList.take (k + 1))) w2) := Lib.hid (by rw [HN.out, HPB.out]; exact .inr h1)
          have HB2 := Lib.hid (HB.out.trans (below_of_drew hb2))
          clear h1 hb2 q1 q2 q3 r1 r2
          go_wp2
          exact ⟨⟨k + 1, by omega, by go_num, HI2, HB2⟩, by simp [intOf]; omega⟩
    · have hk2 : k = t.size := by omega
      have HF : Hid (pct (t.data.toList.take k) = pct t.data.toList) := Lib.hid (by rw [hk2, List.take_of_length_le (Nat.le_refl t.size)])
      clear hk2
      go_wp2_with fail
      refine (Tryz.Builder_String_any w.heap.size w.heap.size _ wr HI.out HB.out.size).mono ?_
      rintro e w1 ⟨rfl, hb⟩
      have HB1 := Lib.hid (HB.out.trans hb)
      clear hb
      go_wp2
      go_ret
      exact ⟨congrArg (fun l : List UInt8 => Ending.returned (Value.string ⟨l.toArray⟩)) HF.out, HB1.out⟩
end Go.Proofs.YtoafmhbgbofgoaaGreatDoor.Gp
