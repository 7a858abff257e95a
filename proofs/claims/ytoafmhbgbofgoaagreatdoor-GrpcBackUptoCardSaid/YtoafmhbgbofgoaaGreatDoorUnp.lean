/-
  Contracts: strconv.ParseUint of two bytes at base 16; grpc.Unpercent.
-/
import Derived.Test.YtoafmhbgbofgoaaGreatDoorPu
import Derived.Test.YtoafmhbgbofgoaaGreatDoorBld
import Derived.Test.YtoafmhbgbofgoaaGreatDoorEnv
import Derived.Lib.AtoiErrMem
namespace Go.Own
open Go.RowKit
/-- s[k] of a text. -/
theorem idx_str {P : Program} {t : TypeId} (ht : P.underlying t = some .string) (s : ByteArray) (k : Nat) (i : Int) (hi : i = (k : Int)) (hk : k < s.size) (W : World) :
    (Instr.index t (.string s) (.int .i64 i)).run P W = .ok (.int .u8 ((s.data.toList.getD k 0).toNat : Int)) W := by
  subst hi
  have hk2 : (k : Int) < (s.size : Int) := by omega
  have e : s.data.toList.getD k 0 = s[k] := by
    rw [List.getD, List.getElem?_eq_getElem (by simpa using hk)]
    rfl
  simp [Instr.index, run_underlying ht, asIntOf, hk, e]
  rfl
/-- s[k:k+2] of a text. -/
theorem two_of {P : Program} {t : TypeId} (ht : P.underlying t = some .string) (s : ByteArray) (k : Nat) (x y : Int) (hx : x = (k : Int)) (hy : y = (k : Int) + 2) (hk : k + 2 ≤ s.size) (W : World) :
    (Instr.slice t (.string s) (some (.int .i64 x)) (some (.int .i64 y)) none).run P W = .ok (.string ⟨#[s.data.toList.getD k 0, s.data.toList.getD (k + 1) 0]⟩) W := by
  subst hx hy
  have h := run_slice_string_if (P := P) (w := W) t s .i64 .i64 (k : Int) ((k : Int) + 2) ht
  rw [h, if_pos (by omega), if_pos (by omega)]
  clear h
  congr 2
  have hl : s.data.toList.length = s.size := rfl
  rw [show ((k : Int) + 2).toNat = k + 2 by omega, Int.toNat_natCast]
  apply ByteArray.ext
  apply Array.ext'
  rw [Lib.extract_data]
  have h0 : k < s.data.toList.length := by omega
  have h1 : k + 1 < s.data.toList.length := by omega
  generalize s.data.toList = L at *
  rw [show k + 2 - k = 2 by omega, List.drop_eq_getElem_cons h0, List.drop_eq_getElem_cons h1]
  have g0 : L.getD k 0 = L[k] := by simp [List.getD, h0]
  have g1 : L.getD (k + 1) 0 = L[k + 1] := by simp [List.getD, h1]
  rw [g0, g1]
  rfl
end Go.Own
namespace Go.Proofs.YtoafmhbgbofgoaaGreatDoor.Gp
open Go.RowKit Go.Own Go.Own.Grpc

/-- strconv.ParseUint of two bytes. -/
def P2Post (a b : UInt8) (w : World) (e : Ending) (w' : World) : Prop :=
  (if isH a = true ∧ isH b = true then e = .returned (.tuple #[.int .u64 ((16 * nib a.toNat + nib b.toNat : Nat) : Int), .nilIface]) else ∃ x v, e = .returned (.tuple #[.int .u64 x, .iface 124 v])) ∧ Below w.heap.size w w'
set_option maxHeartbeats 1000000 in
set_option maxRecDepth 100000 in
theorem parse2_any (a b : UInt8) (w : World) (e1 e2 e3 e4 : Addr) (he : EnvG w e1 e2 e3 e4) :
    Calls Tryz.prog 46 #[.string ⟨#[a, b]⟩, .int .i64 16, .int .i64 8] w (P2Post a b w) := by
  have HE := Lib.hid he
  clear he
  obtain ⟨t, ht⟩ : ∃ t : ByteArray, t = ⟨#[a, b]⟩ := ⟨_, rfl⟩
  have hsz : t.size = 2 := by rw [ht]; rfl
  have hcv := Lib.run_convert_string_bytes (P := Tryz.prog) w 9 53 5 t (u := .string) Tryz.underlying9 Tryz.underlying53 Tryz.underlying5
  rw [hsz] at hcv
  have hB : ∀ j, j < 2 → (Lib.bytesWorld w 5 t).cell? ⟨w.heap.size, j, none⟩ = some (.int .u8 (((t.data.toList.getD j 0).toNat : Nat) : Int)) := fun j hj => Lib.bytesWorld_cell w 5 t j (by omega)
  have hin := inner_core t (fun j => (t.data.toList.getD j 0).toNat) w _ _ (by rw [ht]; exact two_bytes a b) (Lib.hid fun j => (t.data.toList.getD j 0).toNat_lt) hcv (Lib.hid hB) (Lib.hid (Lib.bytesWorld_below w _ t))
  have x0 : t.data.toList.getD 0 0 = a := by rw [ht]; rfl
  have x1 : t.data.toList.getD 1 0 = b := by rw [ht]; rfl
  simp only [x0, x1] at hin
  have HIN := Lib.hid hin
  have hlim : t.size ≤ 281474976710656 := by omega
  rw [← ht]
  clear hin hcv hB x0 x1 ht hsz
  by_cases hh : isH a = true ∧ isH b = true
  · have h1 : nib a.toNat < 16 ∧ nib b.toNat < 16 := ⟨of_decide_eq_true hh.1, of_decide_eq_true hh.2⟩
    have HP : ∀ w', Hid (Below w.heap.size w w' → P2Post a b w (.returned (.tuple #[.int .u64 ((16 * nib a.toNat + nib b.toNat : Nat) : Int), .nilIface])) w') := fun w' => Lib.hid fun hb => ⟨by rw [if_pos hh], hb⟩
    have HN := Lib.hid h1
    clear hh h1
    go_enter Tryz.func46, Tryz.ntmps46
    go_wp2_with fail
    refine HIN.out.mono ?_
    rintro e w1 ⟨he, hb⟩
    rw [if_pos HN.out, if_pos HN.out] at he
    subst he
    have HB := Lib.hid hb
    clear hb
    go_wp2
    go_ret2
    exact (HP _).out HB.out
  · have h1 : ¬ (nib a.toNat < 16 ∧ nib b.toNat < 16) := fun h => hh ⟨decide_eq_true h.1, decide_eq_true h.2⟩
    have HP : ∀ w' v, Hid (Below w.heap.size w w' → P2Post a b w (.returned (.tuple #[.int .u64 0, .iface 124 v])) w') := fun w' v => Lib.hid fun hb => ⟨by rw [if_neg hh]; exact ⟨_, _, rfl⟩, hb⟩
    have HN := Lib.hid h1
    clear hh h1
    go_enter Tryz.func46, Tryz.ntmps46
    go_wp2_with fail
    refine HIN.out.mono ?_
    rintro e w1 ⟨he, hb⟩
    rw [if_neg HN.out, if_neg HN.out] at he
    subst he
    have HB := Lib.hid hb
    have HE1 := Lib.hid (HE.out.below hb HE.out.room)
    clear hb
    go_wp2_with fail
    obtain ⟨te, pe, hs⟩ := HE1.out.syn
    refine (Tryz.strconv_toError_syntax _ t _ _ (.iface te pe) _ hlim hs (.inr ⟨te, pe, rfl⟩)).mono ?_
    rintro e w2 ⟨N, rfl, h1, h2, h3⟩
    have HB2 := Lib.hid (HB.out.trans (h3.mono HB.out.size))
    clear h1 h2 h3 hs
    go_wp2
    go_ret2
    exact (HP _ _).out HB2.out

theorem IsB.below2 {H b : Nat} {l : List UInt8} {w w' : World} (h : IsB H b l w) (hb : Below w.heap.size w w') : IsB H b l w' := by
  have key : ∀ {p : Value} {bs : List Value}, Lib.BuilderAt 92 5 H b p bs w → Lib.BuilderAt 92 5 H b p bs w' := by
    rintro p bs h
    have hlt := h.lt
    obtain ⟨hB, v, hk, ho, hn⟩ := h
    exact ⟨hB, v, (hb.block b hlt).trans hk, own_grown ho (grown_of_below hb none) (fun _ _ => by simp), hn⟩
  rcases h with h | h
  · exact .inl (key h)
  · exact .inr (key h)
theorem unp_step (l : List UInt8) (k : Nat) (c : UInt8) (hc : l.getD k 0 = c) (hk : k < l.length) : l.drop k = c :: l.drop (k + 1) := by
  rw [List.drop_eq_getElem_cons hk]
  congr 1
  rw [← hc]
  simp [List.getD, hk]

set_option maxHeartbeats 2000000 in
set_option maxRecDepth 100000 in
theorem unpercent_any (t : ByteArray) (w : World) (e1 e2 e3 e4 : Addr) (he : EnvG w e1 e2 e3 e4) (hsz : t.size ≤ 1000000000) :
    Calls Tryz.prog 21 #[.string t] w fun e w' => e = .returned (.string ⟨(unp t.data.toList).toArray⟩) ∧ Below w.heap.size w w' := by
  have HE := Lib.hid he
  clear he
  go_enter Tryz.func21, Tryz.ntmps21
  go_wp2
  go_loopw [4] (fun i wr => ∃ (k : Nat) (out : List UInt8), k ≤ t.size ∧ i = .int .i64 k ∧ out.length ≤ k ∧ Hid (IsB w.heap.size w.heap.size out wr) ∧ Hid (Below w.heap.size w wr) ∧ Hid (out ++ unp (t.data.toList.drop k) = unp t.data.toList)) (fun i _ => t.size - (intOf i).toNat)
  case atStart => exact ⟨0, [], by omega, rfl, by simp, Lib.hid (Lib.fresh_isBuilder _ _ _), Lib.hid ((Below.refl _ _).alloc (Nat.le_refl _) _), Lib.hid (by simp)⟩
  case round =>
    obtain ⟨k, out, hk, rfl, hol, HI, HB, HU⟩ := hrel
    by_cases hlt : k < t.size
    · have hll : t.data.toList.length = t.size := rfl
      have hi0 := idx_str (P := Tryz.prog) Tryz.underlying9 t k (k : Int) rfl hlt
      obtain ⟨c, hc⟩ : ∃ c, t.data.toList.getD k 0 = c := ⟨_, rfl⟩
      rw [hc] at hi0
      have HST := Lib.hid (unp_step t.data.toList k c hc (by omega))
      have hBw : w.heap.size ≤ wr.heap.size := HB.out.size
      have hwc := writeByte_any w.heap.size w.heap.size out c wr HI.out (by omega) hBw
      obtain ⟨x, hx⟩ : ∃ x, c.toNat = x := ⟨_, rfl⟩
      rw [hx] at hi0 hwc
      have HWC := Lib.hid hwc
      have HX := Lib.hid hx
      clear hwc
      clear hc hx
      have hlen2 : Hid ((t.data.toList.drop (k + 1)).length = t.size - (k + 1)) := Lib.hid (by rw [List.length_drop, hll])
      clear hll
      by_cases hp : c = 37
      · have t0 : ((x : Int) == 37) = true := by rw [← HX.out, hp]; rfl
        by_cases h2 : k + 2 < t.size
        · have hi1 := idx_str (P := Tryz.prog) Tryz.underlying9 t (k + 1) ((k : Int) + 1) (by omega) (by omega)
          have hi2 := two_of (P := Tryz.prog) Tryz.underlying9 t (k + 1) ((k : Int) + 1) ((k : Int) + 3) (by omega) (by omega) (by omega)
          obtain ⟨a, ha⟩ : ∃ a, t.data.toList.getD (k + 1) 0 = a := ⟨_, rfl⟩
          obtain ⟨b, hb⟩ : ∃ b, t.data.toList.getD (k + 1 + 1) 0 = b := ⟨_, rfl⟩
          rw [ha] at hi1 hi2
          rw [hb] at hi2
          have HS2 := Lib.hid (unp_step t.data.toList (k + 1) a ha (show _ < t.size by omega))
          have HS3 := Lib.hid (unp_step t.data.toList (k + 1 + 1) b hb (show _ < t.size by omega))
          have HP2 := Lib.hid (parse2_any a b wr e1 e2 e3 e4 (HE.out.below HB.out HE.out.room))
          obtain ⟨y, hy⟩ : ∃ y, a.toNat = y := ⟨_, rfl⟩
          rw [hy] at hi1
          have HY := Lib.hid hy
          clear ha hb hy
          by_cases hh : isH a = true ∧ isH b = true
          · have t1 : ((y : Int) != 43) = true := by
              have := of_decide_eq_true hh.1
              rw [HY.out] at this
              have h43 : y ≠ 43 := by
                rintro rfl
                exact absurd this (by decide)
              simp; omega
            have HU2 : Hid (out ++ [UInt8.ofNat (16 * nib a.toNat + nib b.toNat)] ++ unp (t.data.toList.drop (k + 3)) = unp t.data.toList) := Lib.hid (by
              rw [← HU.out, HST.out, HS2.out, HS3.out, hp, unp_hex _ _ _ hh.1 hh.2]
              simp)
            have hv : 16 * nib a.toNat + nib b.toNat < 256 := by
              have h1 := of_decide_eq_true hh.1
              have h2 := of_decide_eq_true hh.2
              omega
            have HH := Lib.hid hh
            clear hh hp
            go_wp2_with fail
            refine HP2.out.mono ?_
            rintro e w1 ⟨he, hb1⟩
            rw [if_pos HH.out] at he
            subst he
            have HB1 := Lib.hid hb1
            have HWV := Lib.hid (writeByte_any w.heap.size w.heap.size out (UInt8.ofNat (16 * nib a.toNat + nib b.toNat)) w1 (HI.out.below2 hb1) (by omega) (Nat.le_trans hBw hb1.size))
            have hbv := byte_mod (16 * nib a.toNat + nib b.toNat)
            obtain ⟨v, hv2⟩ : ∃ v, 16 * nib a.toNat + nib b.toNat = v := ⟨_, rfl⟩
            rw [hv2] at hbv hv HWV HU2 ⊢
            have hbv2 : ((UInt8.ofNat v).toNat : Int) = (v : Int) := by rw [hbv]; omega
            rw [hbv2] at HWV
            clear hb1 hbv hbv2 hv2 hi0 t0
            go_wp2_with fail
            refine HWV.out.mono ?_
            rintro e w2 ⟨rfl, h1, hb2⟩
            have HI2 := Lib.hid h1
            have HB2 := Lib.hid (HB.out.trans ((HB1.out.mono hBw).trans hb2))
            clear h1 hb2
            go_wp2
            exact ⟨⟨k + 3, out ++ [UInt8.ofNat v], by omega, by go_num, by simp; omega, Lib.hid (.inr HI2.out), HB2, HU2⟩, by simp [intOf]; omega⟩
          · have HU2 : Hid (out ++ [c] ++ unp (t.data.toList.drop (k + 1)) = unp t.data.toList) := Lib.hid (by
              rw [← HU.out, HST.out, HS2.out, HS3.out, hp, unp_not _ _ _ hh]
              simp)
            have HH := Lib.hid hh
            clear hh hp
            go_wp2_with fail
            refine HP2.out.mono ?_
            rintro e w1 ⟨he, hb1⟩
            rw [if_neg HH.out] at he
            obtain ⟨xx, vv, rfl⟩ := he
            have HB1 := Lib.hid hb1
            have hwv := writeByte_any w.heap.size w.heap.size out c w1 (HI.out.below2 hb1) (by omega) (Nat.le_trans hBw hb1.size)
            rw [HX.out] at hwv
            have HWV := Lib.hid hwv
            clear hb1 hwv t0
            go_wp2_with fail
            refine HWV.out.mono ?_
            rintro e w2 ⟨rfl, h1, hb2⟩
            have HI2 := Lib.hid h1
            have HB2 := Lib.hid (HB.out.trans ((HB1.out.mono hBw).trans hb2))
            clear h1 hb2
            go_wp2
            exact ⟨⟨k + 1, out ++ [c], by omega, by go_num, by simp; omega, Lib.hid (.inr HI2.out), HB2, HU2⟩, by simp [intOf]; omega⟩
        · have HU2 : Hid (out ++ [c] ++ unp (t.data.toList.drop (k + 1)) = unp t.data.toList) := Lib.hid (by
            rw [← HU.out, HST.out, unp_short _ _ (by rw [hlen2.out]; omega)]
            simp)
          clear hp
          go_wp2_with fail
          refine HWC.out.mono ?_
          rintro e w2 ⟨rfl, h1, hb2⟩
          have HI2 := Lib.hid h1
          have HB2 := Lib.hid (HB.out.trans hb2)
          clear h1 hb2 t0
          go_wp2
          exact ⟨⟨k + 1, out ++ [c], by omega, by go_num, by simp; omega, Lib.hid (.inr HI2.out), HB2, HU2⟩, by simp [intOf]; omega⟩
      · have HU2 : Hid (out ++ [c] ++ unp (t.data.toList.drop (k + 1)) = unp t.data.toList) := Lib.hid (by
          rw [← HU.out, HST.out, unp_cons _ _ hp]
          simp)
        have t0 : ((x : Int) == 37) = false := by
          have : x ≠ 37 := by
            intro e
            apply hp
            apply UInt8.toNat_inj.1
            rw [HX.out, e]
            rfl
          simp; omega
        clear hp
        go_wp2_with fail
        refine HWC.out.mono ?_
        rintro e w2 ⟨rfl, h1, hb2⟩
        have HI2 := Lib.hid h1
        have HB2 := Lib.hid (HB.out.trans hb2)
        clear h1 hb2 t0
        go_wp2
        exact ⟨⟨k + 1, out ++ [c], by omega, by go_num, by simp; omega, Lib.hid (.inr HI2.out), HB2, HU2⟩, by simp [intOf]; omega⟩
    · have hk2 : k = t.size := by omega
      have HF : Hid (out = unp t.data.toList) := Lib.hid (by
        rw [← HU.out, hk2, List.drop_of_length_le (Nat.le_refl t.size)]
        simp [unp])
      clear hk2
      go_wp2_with fail
      refine (Tryz.Builder_String_any w.heap.size w.heap.size out wr HI.out HB.out.size).mono ?_
      rintro e w1 ⟨rfl, hb⟩
      have HB1 := Lib.hid (HB.out.trans hb)
      clear hb
      go_wp2
      go_ret
      exact ⟨congrArg (fun l : List UInt8 => Ending.returned (Value.string ⟨l.toArray⟩)) HF.out, HB1.out⟩
end Go.Proofs.YtoafmhbgbofgoaaGreatDoor.Gp
