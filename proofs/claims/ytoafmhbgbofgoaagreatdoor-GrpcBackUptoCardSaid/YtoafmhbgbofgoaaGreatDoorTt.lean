/-
  Contract: grpc.Timeout of a number that is more than 0.
-/
import Derived.Test.YtoafmhbgbofgoaaGreatDoorTm
namespace Go.Proofs.YtoafmhbgbofgoaaGreatDoor
open Go.RowKit Go.Own Go.Own.Gb Go.Proofs.YtoafmhbgbofgoaaGreatDoor.Gp
theorem i64_sum {a : Int} (h1 : -9223372036854775808 ≤ a) (h2 : a ≤ 9223372036854775807) : IntKind.i64.wrap a = a := IntWalk.i64_in _ (by omega)
/-- What a timeout is as a text. -/
def TtPost (M : Nat) (w : World) (e : Ending) (w' : World) : Prop :=
  Below w.heap.size w w' ∧ ∃ (n : Nat) (c : UInt8) (q : Int), n ≤ 99999999 ∧ (c, q) ∈ unitL ∧ e = .returned (.string (tmT n c)) ∧ (M ≤ 99999999 → n = M ∧ q = 1)
theorem tm_cat (n : Nat) (c : UInt8) (b : ByteArray) (e : b = ⟨#[c]⟩) : decT n ++ b = tmT n c := by
  rw [e]
  apply ByteArray.ext
  apply Array.toList_inj.1
  simp [decT, tmT]
set_option maxHeartbeats 8000000 in
set_option maxRecDepth 100000 in
theorem timeout_any (M : Nat) (hM0 : 0 < M) (hM : M ≤ 9223372036854775807) (w : World) (e1 e2 e3 e4 : Addr) (he : EnvG w e1 e2 e3 e4) :
    Calls Tryz.prog 20 #[.int .i64 (M : Int)] w (TtPost M w) := by
  have HE := Lib.hid he
  have hcv := fun (w : World) (C : Array Value) (n c : Nat) => Lib.run_convert_bytes_const (P := Tryz.prog) w 53 5 C n c Tryz.underlying53 Tryz.underlying5
  have hmx : max (M : Int) 0 = (M : Int) := by omega
  have HIT := Lib.hid (fun (n : Nat) (W : World) (hn : n ≤ 99999999) (hW : EnvG W e1 e2 e3 e4) => (show Calls Tryz.prog 41 #[.int .i64 (n : Int)] W fun e w' => e = .returned (.string (decT n)) ∧ Below W.heap.size W w' from by
    refine (Tryz.strconv_Itoa (n : Int) (by omega) (by omega) W hW.tab).mono ?_
    rintro e w' ⟨rfl, k, os, rfl⟩
    exact ⟨by rw [Lib.itoa_nonneg]; rfl, Lib.below_grow W.heap.size W (Nat.le_refl _) k os⟩))
  clear he
  go_enter Tryz.func20, Tryz.ntmps20
  go_wp2
  go_loopw [12] (fun i wr => ∃ k : Nat, k ≤ 4 ∧ i = .int .i64 k ∧ Hid (Below (w.heap.size + 1) (w.alloc (.cells #[.int .u8 109, .int .u8 83, .int .u8 77, .int .u8 72] 5 (4, 5))) wr ∧ (0 < k → 99999999 < M))) (fun i _ => 4 - (intOf i).toNat)
  case atStart => exact ⟨0, by omega, rfl, Lib.hid ⟨Below.refl _ _, fun h => absurd h (by omega)⟩⟩
  case round =>
    obtain ⟨k, hk, rfl, HB⟩ := hrel
    have hbk := fun k => (HB.out.1.cell (p := ⟨w.heap.size, k, none⟩) (Nat.lt_succ_self _)).trans (World.cell?_alloc_mark w _ _ _ k)
    have hBe : Below w.heap.size w wr := ((Below.refl _ _).alloc (Nat.le_refl _) _).trans (HB.out.1.mono (Nat.le_succ _))
    have HBE := Lib.hid hBe
    clear hBe hmx hcv
    by_cases h0 : k = 0
    · subst h0
      have hc := hbk 0
      simp only [List.getElem?_toArray, List.getElem?_cons_zero, List.getElem?_cons_succ] at hc
      clear hbk
      obtain ⟨D, hD⟩ : ∃ D, M / 1 = D := ⟨_, rfl⟩
      obtain ⟨R, hR⟩ : ∃ R, M % 1 = R := ⟨_, rfl⟩
      have d1 : (M : Int).tdiv 1 = (D : Int) := by rw [Int.tdiv_eq_ediv_of_nonneg (by omega)]; omega
      have d2 : (M : Int).tmod 1 = (R : Int) := by rw [Int.tmod_eq_emod_of_nonneg (by omega)]; omega
      have x1 : (M : Int) / 1 = (D : Int) := by omega
      have x2 : (M : Int) % 1 = (R : Int) := by omega
      have hw0 : IntKind.i64.wrap (D : Int) = (D : Int) := i64_sum (by omega) (by omega)
      go_wp2_with fail
      refine (units_any _).mono ?_
      rintro e w2 ⟨rfl, hb2, hm2⟩
      have hlk := look_units wr.heap.size 109 1000000 w2 hm2 3 rfl
      have HB2 := Lib.hid (HBE.out.trans (hb2.mono HBE.out.size))
      have HB2' := Lib.hid (HB.out.1.trans (hb2.mono (by simpa using HB.out.1.size)))
      clear hb2 hm2
      have HE2 := Lib.hid (HE.out.below HB2.out HE.out.room)
      obtain rfl : R = 0 := by omega
      obtain rfl : D = M := by omega
      by_cases hle : D ≤ 99999999
      · have hle2 : (D : Int) ≤ 99999999 := by omega
        have HI := Lib.hid (HIT.out D w2 hle HE2.out)
        have hE : decT D ++ Utf8.encode 109 = tmT D 109 := tm_cat D 109 _ (by decide +kernel)
        obtain ⟨B, hB⟩ : ∃ B, decT D = B := ⟨_, rfl⟩
        rw [hB] at HI hE
        have hBs : B.size ≤ 8 := by rw [← hB, Lib.size_eq]; exact dec_len 7 _ (by omega)
        have hEs : (Utf8.encode 109).size = 1 := by decide +kernel
        have hcat : ¬ (9223372036854775807 < B.size + (Utf8.encode 109).size) := by omega
        clear hEs hB
        go_wp2_with (go_at_call 41; refine HI.out.mono ?_; rintro e w3 ⟨rfl, g3⟩; have HB3 := Lib.hid (HB2.out.trans (g3.mono HB2.out.size)); clear g3)
        go_ret
        exact ⟨HB3.out, D, 109, 1, hle, by decide, rfl, fun h => ⟨rfl, rfl⟩⟩
      · have hle2 : ¬ ((D : Int) ≤ 99999999) := by omega
        go_wp2
        exact ⟨⟨1, by omega, rfl, Lib.hid ⟨HB2'.out, fun _ => by omega⟩⟩, by simp [intOf]⟩
    · have hn0 := h0
      by_cases h1 : k = 1
      · subst h1
        have hc := hbk 1
        simp only [List.getElem?_toArray, List.getElem?_cons_zero, List.getElem?_cons_succ] at hc
        clear hbk
        obtain ⟨D, hD⟩ : ∃ D, M / 1000 = D := ⟨_, rfl⟩
        obtain ⟨R, hR⟩ : ∃ R, M % 1000 = R := ⟨_, rfl⟩
        have d1 : (M : Int).tdiv 1000 = (D : Int) := by rw [Int.tdiv_eq_ediv_of_nonneg (by omega)]; omega
        have d2 : (M : Int).tmod 1000 = (R : Int) := by rw [Int.tmod_eq_emod_of_nonneg (by omega)]; omega
        have x1 : (M : Int) / 1000 = (D : Int) := by omega
        have x2 : (M : Int) % 1000 = (R : Int) := by omega
        have hw0 : IntKind.i64.wrap (D : Int) = (D : Int) := i64_sum (by omega) (by omega)
        go_wp2_with fail
        refine (units_any _).mono ?_
        rintro e w2 ⟨rfl, hb2, hm2⟩
        have hlk := look_units wr.heap.size 83 1000000000 w2 hm2 2 rfl
        have HB2 := Lib.hid (HBE.out.trans (hb2.mono HBE.out.size))
        have HB2' := Lib.hid (HB.out.1.trans (hb2.mono (by simpa using HB.out.1.size)))
        clear hb2 hm2
        have HE2 := Lib.hid (HE.out.below HB2.out HE.out.room)
        by_cases hr0 : R = 0
        · subst hr0
          by_cases hle : D ≤ 99999999
          · have hle2 : (D : Int) ≤ 99999999 := by omega
            have HI := Lib.hid (HIT.out D w2 hle HE2.out)
            have hE : decT D ++ Utf8.encode 83 = tmT D 83 := tm_cat D 83 _ (by decide +kernel)
            obtain ⟨B, hB⟩ : ∃ B, decT D = B := ⟨_, rfl⟩
            rw [hB] at HI hE
            have hBs : B.size ≤ 8 := by rw [← hB, Lib.size_eq]; exact dec_len 7 _ (by omega)
            have hEs : (Utf8.encode 83).size = 1 := by decide +kernel
            have hcat : ¬ (9223372036854775807 < B.size + (Utf8.encode 83).size) := by omega
            clear hEs hB
            go_wp2_with (go_at_call 41; refine HI.out.mono ?_; rintro e w3 ⟨rfl, g3⟩; have HB3 := Lib.hid (HB2.out.trans (g3.mono HB2.out.size)); clear g3)
            go_ret
            exact ⟨HB3.out, D, 83, 1000, hle, by decide, rfl, fun h => absurd (HB.out.2 (by omega)) (by omega)⟩
          · have hle2 : ¬ ((D : Int) ≤ 99999999) := by omega
            go_wp2
            exact ⟨⟨2, by omega, rfl, Lib.hid ⟨HB2'.out, fun _ => HB.out.2 (by omega)⟩⟩, by simp [intOf]⟩
        · have hrp : 0 < R := by omega
          obtain ⟨N, hN⟩ : ∃ N : Nat, N = D + 1 := ⟨_, rfl⟩
          have hN1 : (D : Int) + 1 = (N : Int) := by omega
          have hw1 : IntKind.i64.wrap ((D : Int) + 1) = (N : Int) := by rw [hN1]; exact i64_sum (by omega) (by omega)
          have hw2 : IntKind.i64.wrap (N : Int) = (N : Int) := i64_sum (by omega) (by omega)
          clear hN hN1
          by_cases hle : N ≤ 99999999
          · have hle2 : (N : Int) ≤ 99999999 := by omega
            have HI := Lib.hid (HIT.out N w2 hle HE2.out)
            have hE : decT N ++ Utf8.encode 83 = tmT N 83 := tm_cat N 83 _ (by decide +kernel)
            obtain ⟨B, hB⟩ : ∃ B, decT N = B := ⟨_, rfl⟩
            rw [hB] at HI hE
            have hBs : B.size ≤ 8 := by rw [← hB, Lib.size_eq]; exact dec_len 7 _ (by omega)
            have hEs : (Utf8.encode 83).size = 1 := by decide +kernel
            have hcat : ¬ (9223372036854775807 < B.size + (Utf8.encode 83).size) := by omega
            clear hEs hB
            go_wp2_with (go_at_call 41; refine HI.out.mono ?_; rintro e w3 ⟨rfl, g3⟩; have HB3 := Lib.hid (HB2.out.trans (g3.mono HB2.out.size)); clear g3)
            go_ret
            exact ⟨HB3.out, N, 83, 1000, hle, by decide, rfl, fun h => absurd (HB.out.2 (by omega)) (by omega)⟩
          · have hle2 : ¬ ((N : Int) ≤ 99999999) := by omega
            go_wp2
            exact ⟨⟨2, by omega, rfl, Lib.hid ⟨HB2'.out, fun _ => HB.out.2 (by omega)⟩⟩, by simp [intOf]⟩
      · have hn1 := h1
        by_cases h2 : k = 2
        · subst h2
          have hc := hbk 2
          simp only [List.getElem?_toArray, List.getElem?_cons_zero, List.getElem?_cons_succ] at hc
          clear hbk
          obtain ⟨D, hD⟩ : ∃ D, M / 60000 = D := ⟨_, rfl⟩
          obtain ⟨R, hR⟩ : ∃ R, M % 60000 = R := ⟨_, rfl⟩
          have d1 : (M : Int).tdiv 60000 = (D : Int) := by rw [Int.tdiv_eq_ediv_of_nonneg (by omega)]; omega
          have d2 : (M : Int).tmod 60000 = (R : Int) := by rw [Int.tmod_eq_emod_of_nonneg (by omega)]; omega
          have x1 : (M : Int) / 60000 = (D : Int) := by omega
          have x2 : (M : Int) % 60000 = (R : Int) := by omega
          have hw0 : IntKind.i64.wrap (D : Int) = (D : Int) := i64_sum (by omega) (by omega)
          go_wp2_with fail
          refine (units_any _).mono ?_
          rintro e w2 ⟨rfl, hb2, hm2⟩
          have hlk := look_units wr.heap.size 77 60000000000 w2 hm2 1 rfl
          have HB2 := Lib.hid (HBE.out.trans (hb2.mono HBE.out.size))
          have HB2' := Lib.hid (HB.out.1.trans (hb2.mono (by simpa using HB.out.1.size)))
          clear hb2 hm2
          have HE2 := Lib.hid (HE.out.below HB2.out HE.out.room)
          by_cases hr0 : R = 0
          · subst hr0
            by_cases hle : D ≤ 99999999
            · have hle2 : (D : Int) ≤ 99999999 := by omega
              have HI := Lib.hid (HIT.out D w2 hle HE2.out)
              have hE : decT D ++ Utf8.encode 77 = tmT D 77 := tm_cat D 77 _ (by decide +kernel)
              obtain ⟨B, hB⟩ : ∃ B, decT D = B := ⟨_, rfl⟩
              rw [hB] at HI hE
              have hBs : B.size ≤ 8 := by rw [← hB, Lib.size_eq]; exact dec_len 7 _ (by omega)
              have hEs : (Utf8.encode 77).size = 1 := by decide +kernel
              have hcat : ¬ (9223372036854775807 < B.size + (Utf8.encode 77).size) := by omega
              clear hEs hB
              go_wp2_with (go_at_call 41; refine HI.out.mono ?_; rintro e w3 ⟨rfl, g3⟩; have HB3 := Lib.hid (HB2.out.trans (g3.mono HB2.out.size)); clear g3)
              go_ret
              exact ⟨HB3.out, D, 77, 60000, hle, by decide, rfl, fun h => absurd (HB.out.2 (by omega)) (by omega)⟩
            · have hle2 : ¬ ((D : Int) ≤ 99999999) := by omega
              go_wp2
              exact ⟨⟨3, by omega, rfl, Lib.hid ⟨HB2'.out, fun _ => HB.out.2 (by omega)⟩⟩, by simp [intOf]⟩
          · have hrp : 0 < R := by omega
            obtain ⟨N, hN⟩ : ∃ N : Nat, N = D + 1 := ⟨_, rfl⟩
            have hN1 : (D : Int) + 1 = (N : Int) := by omega
            have hw1 : IntKind.i64.wrap ((D : Int) + 1) = (N : Int) := by rw [hN1]; exact i64_sum (by omega) (by omega)
            have hw2 : IntKind.i64.wrap (N : Int) = (N : Int) := i64_sum (by omega) (by omega)
            clear hN hN1
            by_cases hle : N ≤ 99999999
            · have hle2 : (N : Int) ≤ 99999999 := by omega
              have HI := Lib.hid (HIT.out N w2 hle HE2.out)
              have hE : decT N ++ Utf8.encode 77 = tmT N 77 := tm_cat N 77 _ (by decide +kernel)
              obtain ⟨B, hB⟩ : ∃ B, decT N = B := ⟨_, rfl⟩
              rw [hB] at HI hE
              have hBs : B.size ≤ 8 := by rw [← hB, Lib.size_eq]; exact dec_len 7 _ (by omega)
              have hEs : (Utf8.encode 77).size = 1 := by decide +kernel
              have hcat : ¬ (9223372036854775807 < B.size + (Utf8.encode 77).size) := by omega
              clear hEs hB
              go_wp2_with (go_at_call 41; refine HI.out.mono ?_; rintro e w3 ⟨rfl, g3⟩; have HB3 := Lib.hid (HB2.out.trans (g3.mono HB2.out.size)); clear g3)
              go_ret
              exact ⟨HB3.out, N, 77, 60000, hle, by decide, rfl, fun h => absurd (HB.out.2 (by omega)) (by omega)⟩
            · have hle2 : ¬ ((N : Int) ≤ 99999999) := by omega
              go_wp2
              exact ⟨⟨3, by omega, rfl, Lib.hid ⟨HB2'.out, fun _ => HB.out.2 (by omega)⟩⟩, by simp [intOf]⟩
        · have hn2 := h2
          by_cases h3 : k = 3
          · subst h3
            have hc := hbk 3
            simp only [List.getElem?_toArray, List.getElem?_cons_zero, List.getElem?_cons_succ] at hc
            clear hbk
            obtain ⟨D, hD⟩ : ∃ D, M / 3600000 = D := ⟨_, rfl⟩
            obtain ⟨R, hR⟩ : ∃ R, M % 3600000 = R := ⟨_, rfl⟩
            have d1 : (M : Int).tdiv 3600000 = (D : Int) := by rw [Int.tdiv_eq_ediv_of_nonneg (by omega)]; omega
            have d2 : (M : Int).tmod 3600000 = (R : Int) := by rw [Int.tmod_eq_emod_of_nonneg (by omega)]; omega
            have x1 : (M : Int) / 3600000 = (D : Int) := by omega
            have x2 : (M : Int) % 3600000 = (R : Int) := by omega
            have hw0 : IntKind.i64.wrap (D : Int) = (D : Int) := i64_sum (by omega) (by omega)
            go_wp2_with fail
            refine (units_any _).mono ?_
            rintro e w2 ⟨rfl, hb2, hm2⟩
            have hlk := look_units wr.heap.size 72 3600000000000 w2 hm2 0 rfl
            have HB2 := Lib.hid (HBE.out.trans (hb2.mono HBE.out.size))
            have HB2' := Lib.hid (HB.out.1.trans (hb2.mono (by simpa using HB.out.1.size)))
            clear hb2 hm2
            have HE2 := Lib.hid (HE.out.below HB2.out HE.out.room)
            by_cases hr0 : R = 0
            · subst hr0
              by_cases hle : D ≤ 99999999
              · have hle2 : (D : Int) ≤ 99999999 := by omega
                have HI := Lib.hid (HIT.out D w2 hle HE2.out)
                have hE : decT D ++ Utf8.encode 72 = tmT D 72 := tm_cat D 72 _ (by decide +kernel)
                obtain ⟨B, hB⟩ : ∃ B, decT D = B := ⟨_, rfl⟩
                rw [hB] at HI hE
                have hBs : B.size ≤ 8 := by rw [← hB, Lib.size_eq]; exact dec_len 7 _ (by omega)
                have hEs : (Utf8.encode 72).size = 1 := by decide +kernel
                have hcat : ¬ (9223372036854775807 < B.size + (Utf8.encode 72).size) := by omega
                clear hEs hB
                go_wp2_with (go_at_call 41; refine HI.out.mono ?_; rintro e w3 ⟨rfl, g3⟩; have HB3 := Lib.hid (HB2.out.trans (g3.mono HB2.out.size)); clear g3)
                go_ret
                exact ⟨HB3.out, D, 72, 3600000, hle, by decide, rfl, fun h => absurd (HB.out.2 (by omega)) (by omega)⟩
              · have hle2 : ¬ ((D : Int) ≤ 99999999) := by omega
                go_wp2
                exact ⟨⟨4, by omega, rfl, Lib.hid ⟨HB2'.out, fun _ => HB.out.2 (by omega)⟩⟩, by simp [intOf]⟩
            · have hrp : 0 < R := by omega
              obtain ⟨N, hN⟩ : ∃ N : Nat, N = D + 1 := ⟨_, rfl⟩
              have hN1 : (D : Int) + 1 = (N : Int) := by omega
              have hw1 : IntKind.i64.wrap ((D : Int) + 1) = (N : Int) := by rw [hN1]; exact i64_sum (by omega) (by omega)
              have hw2 : IntKind.i64.wrap (N : Int) = (N : Int) := i64_sum (by omega) (by omega)
              clear hN hN1
              by_cases hle : N ≤ 99999999
              · have hle2 : (N : Int) ≤ 99999999 := by omega
                have HI := Lib.hid (HIT.out N w2 hle HE2.out)
                have hE : decT N ++ Utf8.encode 72 = tmT N 72 := tm_cat N 72 _ (by decide +kernel)
                obtain ⟨B, hB⟩ : ∃ B, decT N = B := ⟨_, rfl⟩
                rw [hB] at HI hE
                have hBs : B.size ≤ 8 := by rw [← hB, Lib.size_eq]; exact dec_len 7 _ (by omega)
                have hEs : (Utf8.encode 72).size = 1 := by decide +kernel
                have hcat : ¬ (9223372036854775807 < B.size + (Utf8.encode 72).size) := by omega
                clear hEs hB
                go_wp2_with (go_at_call 41; refine HI.out.mono ?_; rintro e w3 ⟨rfl, g3⟩; have HB3 := Lib.hid (HB2.out.trans (g3.mono HB2.out.size)); clear g3)
                go_ret
                exact ⟨HB3.out, N, 72, 3600000, hle, by decide, rfl, fun h => absurd (HB.out.2 (by omega)) (by omega)⟩
              · have hle2 : ¬ ((N : Int) ≤ 99999999) := by omega
                go_wp2
                exact ⟨⟨4, by omega, rfl, Lib.hid ⟨HB2'.out, fun _ => HB.out.2 (by omega)⟩⟩, by simp [intOf]⟩
          · have hn3 := h3
            obtain rfl : k = 4 := by omega
            have HI := Lib.hid (fun W hW => HIT.out 99999999 W (by decide) hW)
            have HEr := Lib.hid (HE.out.below HBE.out HE.out.room)
            have hE : decT 99999999 ++ (⟨#[72]⟩ : ByteArray) = tmT 99999999 72 := tm_cat 99999999 72 _ rfl
            obtain ⟨B, hB⟩ : ∃ B, decT 99999999 = B := ⟨_, rfl⟩
            rw [hB] at HI hE
            have hBs : B.size ≤ 8 := by rw [← hB, Lib.size_eq]; exact dec_len 7 _ (by decide)
            have hcat : ¬ (9223372036854775807 < B.size + (⟨#[72]⟩ : ByteArray).size) := by show ¬ (_ < B.size + 1); omega
            have hcat1 : ¬ (9223372036854775807 < B.size + 1) := by omega
            clear hbk hB
            go_wp2_with (go_at_call 41; refine (HI.out _ HEr.out).mono ?_; rintro e w3 ⟨rfl, g3⟩; have HB3 := Lib.hid (HBE.out.trans (g3.mono HBE.out.size)); clear g3)
            go_ret
            exact ⟨HB3.out, 99999999, 72, 3600000, by decide, by decide, rfl, fun h => absurd (HB.out.2 (by omega)) (by omega)⟩
end Go.Proofs.YtoafmhbgbofgoaaGreatDoor
