/-
  Contract: grpc.Request: a list that is built of a call, or an error.
-/
import Derived.Test.YtoafmhbgbofgoaaGreatDoorWr
import Derived.Test.YtoafmhbgbofgoaaGreatDoorTt
import Derived.Test.YtoafmhbgbofgoaaGreatDoorPb
namespace Go.Own.Gb
open Go Go.Own.Hd Go.Own.B64
def teH : HdrV := ⟨⟨#[116, 101]⟩, ⟨#[116, 114, 97, 105, 108, 101, 114, 115]⟩, false⟩
def ctH : HdrV := ⟨⟨#[99, 111, 110, 116, 101, 110, 116, 45, 116, 121, 112, 101]⟩, ⟨#[97, 112, 112, 108, 105, 99, 97, 116, 105, 111, 110, 47, 103, 114, 112, 99]⟩, false⟩
def tmH (t : ByteArray) : HdrV := ⟨⟨#[103, 114, 112, 99, 45, 116, 105, 109, 101, 111, 117, 116]⟩, t, false⟩
def postT : ByteArray := ⟨#[80, 79, 83, 84]⟩
def httpT : ByteArray := ⟨#[104, 116, 116, 112]⟩
end Go.Own.Gb
namespace Go.Proofs.YtoafmhbgbofgoaaGreatDoor
open Go.RowKit Go.Own Go.Own.Hd Go.Own.Gb Go.Own.B64 Go.WideShapes Go.Proofs.YtoafmhbgbofgoaaGreatDoor.Gp
attribute [local go_sem] Oper.semAt_some
/-- The header of a call's timeout. -/
def TmOk (ms : Int) (tm : List HdrV) : Prop :=
  (ms = 0 ∧ tm = []) ∨ (0 < ms ∧ ∃ (n : Nat) (c : UInt8) (q : Int), n ≤ 99999999 ∧ (c, q) ∈ unitL ∧ tm = [tmH (tmT n c)] ∧ (ms ≤ 99999999 → (n : Int) = ms ∧ q = 1))
theorem TmOk.len {ms : Int} {tm : List HdrV} (h : TmOk ms tm) : tm.length ≤ 1 := by
  rcases h with ⟨_, rfl⟩ | ⟨_, n, c, q, _, _, rfl, _⟩ <;> simp
theorem tmT_small (n : Nat) (c : UInt8) (h : n ≤ 99999999) : (tmT n c).size ≤ 9 := by
  rw [tmT_size]
  have := dec_len 7 n (by omega)
  omega
theorem szs_wr {l : List HdrV} (h : Szk l) : Szs (l.map wr1) := fun x hx => by
  obtain ⟨y, hy, rfl⟩ := List.mem_map.1 hx
  obtain ⟨h1, h2⟩ := h y hy
  refine ⟨by rw [wr1_name]; omega, ?_⟩
  unfold wr1
  split
  · show (⟨(b64 (tx y.value)).toArray⟩ : ByteArray).size ≤ _
    rw [Lib.size_eq]
    show (b64 (tx y.value)).length ≤ _
    rw [b64_len]
    have : (tx y.value).length = y.value.size := (Lib.size_eq _).symm
    omega
  · omega
theorem TmOk.szs {ms : Int} {tm : List HdrV} (h : TmOk ms tm) : Szs tm := by
  rcases h with ⟨_, rfl⟩ | ⟨_, n, c, q, hn, _, rfl, _⟩
  · exact fun x hx => nomatch hx
  · intro x hx
    rw [List.mem_singleton] at hx
    subst hx
    refine ⟨(by show (⟨#[103, 114, 112, 99, 45, 116, 105, 109, 101, 111, 117, 116]⟩ : ByteArray).size ≤ 1000000000; decide), ?_⟩
    have := tmT_small n c hn
    show (tmT n c).size ≤ _
    omega
theorem szs_base : Szs [teH, ctH] := fun x hx => by
  simp only [List.mem_cons, List.not_mem_nil, or_false] at hx
  rcases hx with rfl | rfl <;> exact ⟨by decide, by decide⟩
theorem resT (tmps : Array Value) (w : World) (b : Nat) (a0 a1 a2 : Value) (ht : tmps[0]? = some (.pointer (some ⟨b, 0, none⟩))) (hb : Blk w b 67 #[a0, a1, a2]) :
    (results Tryz.f27 tmps).run Tryz.prog w = .ok (.agg #[a0, a1, a2]) w := by
  have c0 : w.cell? ⟨b, 0, none⟩ = some a0 := hb.cell 0
  have c1 : w.cell? ⟨b, 1, none⟩ = some a1 := hb.cell 1
  have c2 : w.cell? ⟨b, 2, none⟩ = some a2 := hb.cell 2
  simp [results, Tryz.results27, go_sem, ht, c0, c1, c2]
theorem typed_any (w : World) : Calls Tryz.prog 27 #[] w fun e w' => e = .returned (.agg #[.string ⟨#[99, 111, 110, 116, 101, 110, 116, 45, 116, 121, 112, 101]⟩, .string ⟨#[97, 112, 112, 108, 105, 99, 97, 116, 105, 111, 110, 47, 103, 114, 112, 99]⟩, .bool false]) ∧ Below w.heap.size w w' := by
  go_enter Tryz.func27, Tryz.ntmps27
  go_wp2
  exact bodyPost_ret (resT _ _ w.heap.size _ _ _ rfl (Blk.new w _ _)) rfl ⟨rfl, (Below.refl _ _).alloc (Nat.le_refl _) _⟩
/-- An error, or what was built. -/
def RePost (P U : ByteArray) (ms : Int) (R : List HdrV) (w : World) (e : Ending) (w' : World) : Prop :=
  Below w.heap.size w w' ∧ ((∃ a, e = .returned (.tuple #[.slice none 0 0, .iface 164 (.pointer (some a))])) ∨
    (R.all goodB = true ∧ pathB P.data.toList = true ∧ 0 ≤ ms ∧ ∃ tm A' n' c', TmOk ms tm ∧ e = .returned (.tuple #[.slice A' n' c', .nilIface]) ∧ n' ≤ c' ∧ Hw w' w.heap.size (.slice A' n' c') (preL postT httpT U P ++ ([teH, ctH] ++ tm ++ R.map wr1)) ∧
      openS rules4 (preL postT httpT U P ++ ([teH, ctH] ++ tm ++ R.map wr1)) req0 = some ([teH, ctH] ++ tm ++ R.map wr1, ⟨postT, httpT, U, P⟩)))
set_option maxHeartbeats 8000000 in
set_option maxRecDepth 100000 in
theorem request_any (P U : ByteArray) (ms : Int) (AR : Option Addr) (n c : Nat) (R : List HdrV) (w : World) {e1 e2 e3 g1 g2 g3 g4 : Addr} (he : EnvH w e1 e2 e3) (hg : EnvG w g1 g2 g3 g4) (hn : n ≤ 60) (hr : Hr w AR n R) (hz : Szk R)
    (hP : P.size ≤ 3000) (hU : U.size ≤ 3000) (hms : ms ≤ 9223372036854775807) :
    Calls Tryz.prog 6 #[.agg #[.string P, .string U, .int .i64 ms, .slice AR n c]] w (RePost P U ms R w) := by
  have HE := Lib.hid he
  have HG := Lib.hid hg
  have HR := Lib.hid hr
  have HRL := Lib.hid hr.1
  have HZ := Lib.hid hz
  have HN := Lib.hid hn
  clear he hg hr hz
  go_enter Tryz.func6, Tryz.ntmps6
  go_upto_region 1 with fail
  have HB0 := Lib.hid (show Below w.heap.size w (w.alloc (.cells #[.string P, .string U, .int .i64 ms, .slice AR n c] 33)) from (Below.refl _ _).alloc (Nat.le_refl _) _)
  have HK0 := Lib.hid (Blk.new w 33 #[.string P, .string U, .int .i64 ms, .slice AR n c])
  have HSz := Lib.hid (show (w.alloc (.cells #[.string P, .string U, .int .i64 ms, .slice AR n c] 33)).heap.size = w.heap.size + 1 by simp)
  generalize w.alloc (.cells #[.string P, .string U, .int .i64 ms, .slice AR n c] 33) = w0 at HB0 HK0 HSz ⊢
  have HKf := Lib.hid (fun W (hW : Below w0.heap.size w0 W) => (show W.cell? ⟨w.heap.size, 0, none⟩ = some (.string P) ∧ W.cell? ⟨w.heap.size, 1, none⟩ = some (.string U) ∧ W.cell? ⟨w.heap.size, 2, none⟩ = some (.int .i64 ms) ∧ W.cell? ⟨w.heap.size, 3, none⟩ = some (.slice AR n c) from
    have h := HK0.out.below hW HK0.out.lt
    ⟨h.cell 0, h.cell 1, h.cell 2, h.cell 3⟩))
  have HBf := Lib.hid (fun W (hW : Below w0.heap.size w0 W) => (show Below w.heap.size w W from HB0.out.trans (hW.mono HB0.out.size)))
  have HVf := Lib.hid (fun W (hW : Below w0.heap.size w0 W) => (HG.out.below (HBf.out W hW) (Nat.le_trans (by decide) HE.out.room)).value)
  obtain ⟨_, _, _, k3⟩ := HKf.out w0 (Below.refl _ _)
  go_wp2_with fail
  refine (write_any AR n c R w0 (HE.out.below HB0.out HE.out.room) (by omega) (HR.out.below HB0.out) HZ.out).mono ?_
  rintro e w1 ⟨g1, h1⟩
  have HJ1 := Lib.hid g1
  clear g1 k3
  rcases h1 with ⟨_, rfl⟩ | ⟨hgd, A1, c1, rfl, hc1, hw1⟩
  · have q4 := HVf.out w1 HJ1.out
    go_wp2_with fail
    go_quiet (fail)
    go_wp2
    go_ret2
    exact ⟨below_drewN (HBf.out _ HJ1.out) _, .inl ⟨_, rfl⟩⟩
  · have HGD := Lib.hid hgd
    have HW1 := Lib.hid hw1
    have HC1 := Lib.hid hc1
    clear hgd hw1 hc1
    replace HKf := Lib.hid (fun W (hW : Below w1.heap.size w1 W) => HKf.out W (HJ1.out.trans (hW.mono HJ1.out.size)))
    replace HBf := Lib.hid (fun W (hW : Below w1.heap.size w1 W) => HBf.out W (HJ1.out.trans (hW.mono HJ1.out.size)))
    replace HVf := Lib.hid (fun W (hW : Below w1.heap.size w1 W) => HVf.out W (HJ1.out.trans (hW.mono HJ1.out.size)))
    replace HJ1 := Lib.hid (Below.refl w1.heap.size w1)
    obtain ⟨k0, _, _, _⟩ := HKf.out w1 HJ1.out
    obtain ⟨pb, hpb⟩ : ∃ b, pathB P.data.toList = b := ⟨_, rfl⟩
    have HP := Lib.hid (path_any P w1 (HE.out.below (HBf.out _ HJ1.out) HE.out.room) (by omega))
    rw [hpb] at HP
    have HPB := Lib.hid hpb
    clear hpb
    rcases pb with _ | _
    · go_wp2_with fail
      refine HP.out.mono ?_
      rintro e w2 ⟨rfl, g2⟩
      have HJ2 := Lib.hid (HJ1.out.trans (g2.mono HJ1.out.size))
      clear g2 k0
      have q4 := HVf.out w2 HJ2.out
      go_wp2_with fail
      go_quiet (fail)
      go_wp2
      go_ret2
      exact ⟨below_drewN (HBf.out _ HJ2.out) _, .inl ⟨_, rfl⟩⟩
    · go_wp2_with fail
      refine HP.out.mono ?_
      rintro e w2 ⟨rfl, g2⟩
      have HJ2 := Lib.hid (HJ1.out.trans (g2.mono HJ1.out.size))
      clear g2 k0
      obtain ⟨_, k1, _, _⟩ := HKf.out w2 HJ2.out
      obtain ⟨vb, hvb⟩ : ∃ b, valueB U.data.toList = b := ⟨_, rfl⟩
      have HV := Lib.hid (value_any U w2 (by omega))
      rw [hvb] at HV
      clear hvb
      rcases vb with _ | _
      · go_wp2_with fail
        refine HV.out.mono ?_
        rintro e w3 ⟨rfl, g3⟩
        have HJ3 := Lib.hid (HJ2.out.trans (g3.mono HJ2.out.size))
        clear g3 k1
        have q4 := HVf.out w3 HJ3.out
        go_wp2_with fail
        go_quiet (fail)
        go_wp2
        go_ret2
        exact ⟨below_drewN (HBf.out _ HJ3.out) _, .inl ⟨_, rfl⟩⟩
      · go_wp2_with fail
        refine HV.out.mono ?_
        rintro e w3 ⟨rfl, g3⟩
        have HJ3 := Lib.hid (HJ2.out.trans (g3.mono HJ2.out.size))
        clear g3 k1
        obtain ⟨_, _, k2, _⟩ := HKf.out w3 HJ3.out
        by_cases hm0 : ms < 0
        · have q4 := HVf.out w3 HJ3.out
          go_wp2_with fail
          go_quiet (fail)
          go_wp2
          go_ret2
          exact ⟨below_drewN (HBf.out _ HJ3.out) _, .inl ⟨_, rfl⟩⟩
        · have HM0 := Lib.hid hm0
          go_wp2_with fail
          refine (typed_any w3).mono ?_
          rintro e w4 ⟨rfl, g4⟩
          have HJ4 := Lib.hid (HJ3.out.trans (g4.mono HJ3.out.size))
          clear g4 k2
          go_upto_region 5 with fail
          have HJ5 := Lib.hid (HJ4.out.alloc HJ4.out.size (.cells #[.string ⟨#[116, 101]⟩, .string ⟨#[116, 114, 97, 105, 108, 101, 114, 115]⟩, .bool false, .string ⟨#[99, 111, 110, 116, 101, 110, 116, 45, 116, 121, 112, 101]⟩, .string ⟨#[97, 112, 112, 108, 105, 99, 97, 116, 105, 111, 110, 47, 103, 114, 112, 99]⟩, .bool false] 67))
          have HO5 := Lib.hid (hw_lit w4 [teH, ctH] (by simp))
          replace HO5 : Hid (Hw (w4.alloc (.cells #[.string ⟨#[116, 101]⟩, .string ⟨#[116, 114, 97, 105, 108, 101, 114, 115]⟩, .bool false, .string ⟨#[99, 111, 110, 116, 101, 110, 116, 45, 116, 121, 112, 101]⟩, .string ⟨#[97, 112, 112, 108, 105, 99, 97, 116, 105, 111, 110, 47, 103, 114, 112, 99]⟩, .bool false] 67)) w1.heap.size (.slice (some ⟨w4.heap.size, 0, none⟩) 2 2) [teH, ctH]) := Lib.hid (HO5.out.base HJ4.out.size)
          generalize w4.alloc (.cells #[.string ⟨#[116, 101]⟩, .string ⟨#[116, 114, 97, 105, 108, 101, 114, 115]⟩, .bool false, .string ⟨#[99, 111, 110, 116, 101, 110, 116, 45, 116, 121, 112, 101]⟩, .string ⟨#[97, 112, 112, 108, 105, 99, 97, 116, 105, 111, 110, 47, 103, 114, 112, 99]⟩, .bool false] 67) = w5 at HJ5 HO5 ⊢
          obtain ⟨A5, hA5⟩ : ∃ A, (some ⟨w4.heap.size, 0, none⟩ : Option Addr) = A := ⟨_, rfl⟩
          rw [hA5] at HO5 ⊢
          clear hA5
          obtain ⟨_, _, k2, _⟩ := HKf.out w5 HJ5.out
          by_cases hmp : 0 < ms
          · obtain ⟨M, hM⟩ : ∃ M : Nat, ms = (M : Int) := ⟨ms.toNat, by omega⟩
            subst hM
            have HTm := Lib.hid (timeout_any M (by omega) (by omega) w5 _ _ _ _ (HG.out.below (HBf.out _ HJ5.out) (Nat.le_trans (by decide) HE.out.room)))
            go_wp2_with fail
            refine HTm.out.mono ?_
            rintro e w6 ⟨g6, nt, ct, qt, hnt, hct, rfl, hsm⟩
            have HJ6 := Lib.hid (HJ5.out.trans (g6.mono HJ5.out.size))
            have HO6 := Lib.hid (HO5.out.below g6)
            have HTM := Lib.hid (show TmOk (M : Int) [tmH (tmT nt ct)] from .inr ⟨hmp, nt, ct, qt, hnt, hct, rfl, fun h => by obtain ⟨h1, h2⟩ := hsm (by omega); exact ⟨by rw [h1], h2⟩⟩)
            clear g6 hnt hct hsm HTm k2
            have HLt6 := Lib.hid (show Hr (w6.alloc (.cells #[.string ⟨#[103, 114, 112, 99, 45, 116, 105, 109, 101, 111, 117, 116]⟩, .string (tmT nt ct), .bool false] 67)) (some ⟨w6.heap.size, 0, none⟩) 1 [tmH (tmT nt ct)] from Hw.hr (hw_lit w6 [tmH (tmT nt ct)] (by simp)))
            have HO6a := Lib.hid (show Hw (w6.alloc (.cells #[.string ⟨#[103, 114, 112, 99, 45, 116, 105, 109, 101, 111, 117, 116]⟩, .string (tmT nt ct), .bool false] 67)) w1.heap.size (.slice A5 2 2) [teH, ctH] from HO6.out.below ((Below.refl _ _).alloc (Nat.le_refl _) _))
            have HJ6a := Lib.hid (HJ6.out.alloc HJ6.out.size (.cells #[.string ⟨#[103, 114, 112, 99, 45, 116, 105, 109, 101, 111, 117, 116]⟩, .string (tmT nt ct), .bool false] 67))
            go_wp2_with (first
              | (at_builtin
                 refine wpList_app_hg _ rfl (.tmp 41) (.tmp 46) rfl w1.heap.size (.slice A5 2 2) [teH, ctH] rfl HO6a.out (some ⟨w6.heap.size, 0, none⟩) 1 1 [tmH (tmT nt ct)] rfl HLt6.out (by simp) HJ6a.out.size ?_
                 intro v7 w7 hown hg hv
                 have HO7 := Lib.hid (show Hw w7 w1.heap.size v7 ([teH, ctH] ++ [tmH (tmT nt ct)]) from hown)
                 have HJ7 := Lib.hid (show Below w1.heap.size w1 w7 from HJ6a.out.grown hg HJ6a.out.size (fun j e => (HO6a.out.lt j e).1))
                 clear hown hg hv)
              | (at_builtin
                 refine wpList_app_hg _ rfl (.tmp 48) (.tmp 49) rfl w1.heap.size v7 ([teH, ctH] ++ [tmH (tmT nt ct)]) rfl HO7.out A1 R.length c1 (R.map wr1) rfl ((HW1.out.below HJ7.out).hr) (by have := HTM.out.len; have := HRL.out; have := HN.out; simp at this ⊢; omega) HJ7.out.size ?_
                 intro v8 w8 hown hg hv
                 have HJ8 := Lib.hid (show Below w1.heap.size w1 w8 from HJ7.out.grown hg HJ7.out.size (fun j e => (HO7.out.lt j e).1))
                 obtain ⟨A8, c8, e8, hc8, _⟩ := hown.form
                 have hl8 : ([teH, ctH] ++ [tmH (tmT nt ct)] ++ R.map wr1).length ≤ 70 := by have := HTM.out.len; have := HRL.out; have := HN.out; simp at *; omega
                 have HO8 := Lib.hid hown
                 obtain ⟨n8, hn8⟩ : ∃ n8, ([teH, ctH] ++ [tmH (tmT nt ct)] ++ R.map wr1).length = n8 := ⟨_, rfl⟩
                 rw [hn8] at e8 hc8 hl8
                 subst e8
                 have HN8 := Lib.hid (And.intro hl8 hc8)
                 clear hown hg hv hn8 hc8 hl8
                 obtain ⟨k0, k1, _, _⟩ := HKf.out w8 HJ8.out))
            refine (build_any postT httpT U P A8 n8 c8 ([teH, ctH] ++ [tmH (tmT nt ct)] ++ R.map wr1) w8 (HE.out.below (HBf.out _ HJ8.out) HE.out.room) (by have := HN8.out.1; have h := HO8.out.hr.1; omega) HO8.out.hr (szs_app (szs_app szs_base HTM.out.szs) (szs_wr HZ.out)) ⟨by decide, by decide, by omega, by omega⟩).mono ?_
            rintro e w9 ⟨g9, h9⟩
            have HJ9 := Lib.hid (HJ8.out.trans (g9.mono HJ8.out.size))
            have HL9 := Lib.hid (show w.heap.size ≤ w8.heap.size from (HBf.out _ HJ8.out).size)
            clear g9 k0 k1
            rcases h9 with rfl | ⟨A9, n9, c9, rfl, hn9, hw9, ho9⟩
            · have q4 := HVf.out w9 HJ9.out
              unfold errH
              go_wp2_with fail
              go_quiet (fail)
              go_wp2
              go_ret2
              exact ⟨below_drewN (HBf.out _ HJ9.out) _, .inl ⟨_, rfl⟩⟩
            · have HH9 := Lib.hid (And.intro hn9 (And.intro hw9 ho9))
              clear hn9 hw9 ho9
              go_wp2
              go_ret2
              exact ⟨HBf.out _ HJ9.out, .inr ⟨HGD.out, HPB.out, by have := HM0.out; omega, _, A9, n9, c9, HTM.out, rfl, HH9.out.1, HH9.out.2.1.base HL9.out, HH9.out.2.2⟩⟩
          · have hm00 : ms = 0 := by omega
            subst hm00
            have HTM := Lib.hid (show TmOk 0 [] from .inl ⟨rfl, rfl⟩)
            have HO7 := Lib.hid (show Hw w5 w1.heap.size (.slice A5 2 2) ([teH, ctH] ++ []) from HO5.out)
            have HJ7 := HJ5
            go_wp2_with (first
              | (at_builtin
                 refine wpList_app_hg _ rfl (.tmp 48) (.tmp 49) rfl w1.heap.size (.slice A5 2 2) ([teH, ctH] ++ []) rfl HO7.out A1 R.length c1 (R.map wr1) rfl ((HW1.out.below HJ7.out).hr) (by have := HTM.out.len; have := HRL.out; have := HN.out; simp at this ⊢; omega) HJ7.out.size ?_
                 intro v8 w8 hown hg hv
                 have HJ8 := Lib.hid (show Below w1.heap.size w1 w8 from HJ7.out.grown hg HJ7.out.size (fun j e => (HO7.out.lt j e).1))
                 obtain ⟨A8, c8, e8, hc8, _⟩ := hown.form
                 have hl8 : ([teH, ctH] ++ [] ++ R.map wr1).length ≤ 70 := by have := HTM.out.len; have := HRL.out; have := HN.out; simp at *; omega
                 have HO8 := Lib.hid hown
                 obtain ⟨n8, hn8⟩ : ∃ n8, ([teH, ctH] ++ [] ++ R.map wr1).length = n8 := ⟨_, rfl⟩
                 rw [hn8] at e8 hc8 hl8
                 subst e8
                 have HN8 := Lib.hid (And.intro hl8 hc8)
                 clear hown hg hv hn8 hc8 hl8
                 obtain ⟨k0, k1, _, _⟩ := HKf.out w8 HJ8.out))
            refine (build_any postT httpT U P A8 n8 c8 ([teH, ctH] ++ [] ++ R.map wr1) w8 (HE.out.below (HBf.out _ HJ8.out) HE.out.room) (by have := HN8.out.1; have h := HO8.out.hr.1; omega) HO8.out.hr (szs_app (szs_app szs_base HTM.out.szs) (szs_wr HZ.out)) ⟨by decide, by decide, by omega, by omega⟩).mono ?_
            rintro e w9 ⟨g9, h9⟩
            have HJ9 := Lib.hid (HJ8.out.trans (g9.mono HJ8.out.size))
            have HL9 := Lib.hid (show w.heap.size ≤ w8.heap.size from (HBf.out _ HJ8.out).size)
            clear g9 k0 k1
            rcases h9 with rfl | ⟨A9, n9, c9, rfl, hn9, hw9, ho9⟩
            · have q4 := HVf.out w9 HJ9.out
              unfold errH
              go_wp2_with fail
              go_quiet (fail)
              go_wp2
              go_ret2
              exact ⟨below_drewN (HBf.out _ HJ9.out) _, .inl ⟨_, rfl⟩⟩
            · have HH9 := Lib.hid (And.intro hn9 (And.intro hw9 ho9))
              clear hn9 hw9 ho9
              go_wp2
              go_ret2
              exact ⟨HBf.out _ HJ9.out, .inr ⟨HGD.out, HPB.out, by have := HM0.out; omega, _, A9, n9, c9, HTM.out, rfl, HH9.out.1, HH9.out.2.1.base HL9.out, HH9.out.2.2⟩⟩
end Go.Proofs.YtoafmhbgbofgoaaGreatDoor
