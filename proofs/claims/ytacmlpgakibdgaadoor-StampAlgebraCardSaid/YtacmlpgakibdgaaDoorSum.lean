/-
  Contract: stamp.Sum at few spans.
-/
import Derived.Test.YtacmlpgakibdgaaDoorSt6
namespace Go.Proofs.YtacmlpgakibdgaaDoor
open Go.RowKit Go.Own Go.Own.Dig Go.Own.Alg

/-- Spans that lie in a row. -/
def SpanRow (w : World) (g : Nat) (l : List (Int × Int)) : Prop :=
  g < w.heap.size ∧ ∀ k, k < l.length → w.cell? ⟨g, k * 2, none⟩ = some (.int .i64 (l.getD k (0, 0)).1) ∧ w.cell? ⟨g, k * 2 + 1, none⟩ = some (.int .i64 (l.getD k (0, 0)).2)

theorem results_sum (tmps : Array Value) (w : World) (g : Nat) (a b : Value) (ht : tmps[2]? = some (.pointer (some ⟨g, 0, none⟩))) (hb : Blk w g 32 #[a, b]) :
    (results Tryd.f19 tmps).run Tryd.prog w = .ok (.tuple #[.agg #[a, b], tmps.getD 3 undef]) w := by
  have c0 : w.cell? ⟨g, 0, none⟩ = some a := hb.cell 0
  have c1 : w.cell? ⟨g, 1, none⟩ = some b := hb.cell 1
  simp [results, Tryd.results19, go_sem, ht, c0, c1]

set_option maxHeartbeats 2000000 in
set_option maxRecDepth 100000 in
theorem sum_any (g : Nat) (l : List (Int × Int)) (w : World) (ev : Addr) (he : EnvS w ev) (hr : SpanRow w g l) (hl : l.length ≤ 10) (c : Nat) :
    Calls Tryd.prog 19 #[.slice (some ⟨g, 0, none⟩) l.length c] w fun e w' => e = .returned (resT ev (sumT l)) ∧ Below w.heap.size w w' := by
  have HE := Lib.hid he
  have h8 := he.room
  have HR := Lib.hid hr
  clear he hr
  go_enter Tryd.func19, Tryd.ntmps19
  go_wp2_with fail
  have HB0 := Lib.hid ((Below.refl w.heap.size w).alloc (Nat.le_refl _) (.cells #[.int .i64 0, .int .i64 0] 32))
  have HS0 := Lib.hid (Blk.new w 32 #[.int .i64 0, .int .i64 0])
  generalize w.alloc _ = W0 at HB0 HS0 ⊢
  have hs0 := HB0.out.size
  have hlt0 := HS0.out.lt
  go_loopw [3, 4, 5, 6, 8, 12] (fun e3 a b f _ ix wr => ∃ k : Nat, k ≤ l.length ∧ ix = .int .i64 k ∧ a = .int .i64 (tot (l.take k)).1 ∧ b = .int .i64 (tot (l.take k)).2 ∧ f = .int .i64 0 ∧ e3 = .nilIface ∧ (l.take k).all (fun x => okS x.1 x.2) = true ∧ Below W0.heap.size W0 wr) (fun _ _ _ _ _ ix _ => l.length - (intOf ix).toNat)
  case atStart => exact ⟨0, by omega, rfl, rfl, rfl, rfl, rfl, rfl, Below.refl _ _⟩
  case round =>
    obtain ⟨k, hk, rfl, rfl, rfl, rfl, rfl, hall, hbw⟩ := hrel
    have HBR : Hid (Below w.heap.size w wr) := Lib.hid (HB0.out.trans (hbw.mono hs0))
    have HBW := Lib.hid hbw
    have HRS := Lib.hid (HS0.out.below hbw hlt0)
    have HALL := Lib.hid hall
    obtain ⟨u1, u2, u3, u4⟩ := tot_bd (l.take k).length (l.take k) rfl hall
    have hkl : (l.take k).length ≤ 10 := by rw [List.length_take]; omega
    have v1 : -4000000000000 ≤ (tot (l.take k)).1 := by omega
    have v2 : (tot (l.take k)).1 ≤ 4000000000000 := by omega
    have v3 : -10000000000 ≤ (tot (l.take k)).2 := by omega
    have v4 : (tot (l.take k)).2 ≤ 10000000000 := by omega
    clear hall hbw u1 u2 u3 u4 hkl
    by_cases hlt : k < l.length
    · obtain ⟨r1, r2⟩ := HR.out.2 k hlt
      have e1 := (HBR.out.cell (p := ⟨g, k * 2, none⟩) HR.out.1).trans r1
      have e2 := (HBR.out.cell (p := ⟨g, k * 2 + 1, none⟩) HR.out.1).trans r2
      clear r1 r2
      obtain ⟨sx, hsx⟩ : ∃ x, (l.getD k (0, 0)).1 = x := ⟨_, rfl⟩
      obtain ⟨nx, hnx⟩ : ∃ x, (l.getD k (0, 0)).2 = x := ⟨_, rfl⟩
      rw [hsx] at e1
      rw [hnx] at e2
      have HTK : Hid (l.take (k + 1) = l.take k ++ [(sx, nx)]) := Lib.hid (by
        rw [List.take_succ_eq_append_getElem hlt]
        have : l[k] = (sx, nx) := by
          have h : l.getD k (0, 0) = l[k] := by simp [List.getD, hlt]
          rw [h] at hsx hnx
          exact Prod.ext hsx hnx
        rw [this])
      have HIN : Hid (okS sx nx = false → sumT l = none) := Lib.hid (fun hf => by
        unfold sumT
        rw [if_neg]
        rintro ⟨ha, _⟩
        have := List.all_eq_true.1 ha (l[k]) (List.getElem_mem hlt)
        have h : l.getD k (0, 0) = l[k] := by simp [List.getD, hlt]
        rw [h] at hsx hnx
        rw [hsx, hnx, hf] at this
        cases this)
      clear hsx hnx
      cases hok : okS sx nx
      · have HX := Lib.hid (HIN.out hok)
        have HOK := Lib.hid hok
        clear hok
        have hcv := (HE.out.below HBR.out h8).value
        obtain ⟨t0, t1⟩ : wr.cell? ⟨w.heap.size, 0, none⟩ = some (.int .i64 0) ∧ wr.cell? ⟨w.heap.size, 1, none⟩ = some (.int .i64 0) := ⟨HRS.out.cell 0, HRS.out.cell 1⟩
        have z0 := HRS.out.frozen 0
        have z1 := HRS.out.frozen 1
        have hl1 := HRS.out.lt
        have hl2 : 0 < wr.heap.size := by omega
        go_wp2_with fail
        refine (validSpan_any sx nx _).mono ?_
        rw [HOK.out]
        rintro x W8 ⟨rfl, rfl⟩
        go_wp2_with fail
        go_region
        go_wp2
        exact bodyPost_ret (results_sum _ _ w.heap.size (.int .i64 0) (.int .i64 0) rfl (by first | exact (((HRS.out.put 0 _).put 1 _).alloc _).alloc _ | exact (((HRS.out.alloc _).alloc _).put 0 _).put 1 _)) rfl ⟨by rw [HX.out]; rfl, (by repeat (first | exact HBR.out | refine Below.drew ?_ | refine below_drewN ?_ _ | refine Below.alloc ?_ (by have := HBR.out.size; simp <;> omega) _ | refine Below.setCell ?_ (by simp <;> omega) _))⟩
      · obtain ⟨y1, y2, y3, y4, y5, y6⟩ := of_decide_eq_true hok
        have HOK := Lib.hid hok
        clear hok y5 y6
        go_wp2_with fail
        refine (validSpan_any sx nx _).mono ?_
        rw [HOK.out]
        rintro x W8 ⟨rfl, rfl⟩
        go_wp2_with fail
        go_quiet (fail)
        go_wp2
        refine ⟨⟨k + 1, by omega, by go_num, by rw [HTK.out, tot_snoc], by rw [HTK.out, tot_snoc], rfl, rfl, by rw [HTK.out, List.all_append, HALL.out]; simp [HOK.out], ?_⟩, by simp [intOf]; omega⟩
        exact below_drewN ((HBW.out.alloc HBW.out.size _).alloc (by have := HBW.out.size; simp; omega) _) _
    · have hkl : l.take k = l := List.take_of_length_le (by omega)
      rw [hkl] at HALL v1 v2 v3 v4 ⊢
      obtain ⟨⟨p, q⟩, hpq⟩ : ∃ x, spanN (tot l).1 (tot l).2 = x := ⟨_, rfl⟩
      have HPQ := Lib.hid hpq
      have hsm : sumT l = if okS p q = true then some (p, q) else none := by unfold sumT; rw [HALL.out, hpq]; simp
      have HSM := Lib.hid hsm
      clear hkl hpq hsm hk
      have hcv := (HE.out.below HBR.out h8).value
      obtain ⟨t0, t1⟩ : wr.cell? ⟨w.heap.size, 0, none⟩ = some (.int .i64 0) ∧ wr.cell? ⟨w.heap.size, 1, none⟩ = some (.int .i64 0) := ⟨HRS.out.cell 0, HRS.out.cell 1⟩
      have z0 := HRS.out.frozen 0
      have z1 := HRS.out.frozen 1
      have hl1 := HRS.out.lt
      have hl2 : 0 < wr.heap.size := by omega
      generalize (tot l).1 = TS at *
      generalize (tot l).2 = TN at *
      go_wp2_with fail
      go_loop [4, 6] (fun a f => a = .int .i64 TS ∧ f = .int .i64 0) (fun _ _ => 0)
      case atStart => exact ⟨rfl, rfl⟩
      case round =>
        obtain ⟨rfl, rfl⟩ := hrel
        go_wp2_with fail
        go_loop [4, 6] (fun a f => a = .int .i64 TS ∧ f = .int .i64 0) (fun _ _ => 0)
        case atStart => exact ⟨rfl, rfl⟩
        case round =>
          obtain ⟨rfl, rfl⟩ := hrel
          cases hok : okS p q
          · have HX : Hid (sumT l = none) := Lib.hid (by rw [HSM.out, hok]; rfl)
            have HOK := Lib.hid hok
            clear hok HSM
            go_wp2_with fail
            refine (span_any TS TN _ (by omega) (by omega) (by omega) (by omega)).mono ?_
            rw [HPQ.out]
            rintro x W8 ⟨rfl, rfl⟩
            go_wp2_with fail
            refine (validSpan_any p q _).mono ?_
            rw [HOK.out]
            rintro x W8 ⟨rfl, rfl⟩
            have HK := Lib.hid (((HRS.out.alloc (.cells #[.int .i64 p, .int .i64 q] 32)).alloc (.cells #[.int .i64 p, .int .i64 q] 32)).alloc (.cells #[.int .i64 p, .int .i64 q] 32))
            have HBK := Lib.hid (((HBR.out.alloc HBR.out.size (.cells #[.int .i64 p, .int .i64 q] 32)).alloc (by have := HBR.out.size; simp; omega) (.cells #[.int .i64 p, .int .i64 q] 32)).alloc (by have := HBR.out.size; simp; omega) (.cells #[.int .i64 p, .int .i64 q] 32))
            generalize ((wr.alloc _).alloc _).alloc _ = W9 at HK HBK ⊢
            clear hcv t0 t1 z0 z1 hl1 hl2
            have hcv := (HE.out.below HBK.out h8).value
            obtain ⟨t0, t1⟩ : W9.cell? ⟨w.heap.size, 0, none⟩ = some (.int .i64 0) ∧ W9.cell? ⟨w.heap.size, 1, none⟩ = some (.int .i64 0) := ⟨HK.out.cell 0, HK.out.cell 1⟩
            have z0 := HK.out.frozen 0
            have z1 := HK.out.frozen 1
            have hl2 : 0 < w.heap.size := by omega
            go_wp2_with fail
            go_region
            go_wp2
            exact bodyPost_ret (results_sum _ _ w.heap.size (.int .i64 0) (.int .i64 0) rfl (by first | exact (HK.out.put 0 _).put 1 _ | exact ((HK.out.drew).put 0 _).put 1 _ | exact ((HK.out.drewN _).put 0 _).put 1 _ | exact ((HK.out.put 0 _).put 1 _).drewN 1)) rfl ⟨by rw [HX.out]; rfl, (by repeat (first | exact HBK.out | refine Below.drew ?_ | refine below_drewN ?_ _ | refine Below.setCell ?_ (by simp <;> omega) _))⟩
          · have HX : Hid (sumT l = some (p, q)) := Lib.hid (by rw [HSM.out, hok]; rfl)
            have HOK := Lib.hid hok
            clear hok HSM
            go_wp2_with fail
            refine (span_any TS TN _ (by omega) (by omega) (by omega) (by omega)).mono ?_
            rw [HPQ.out]
            rintro x W8 ⟨rfl, rfl⟩
            go_wp2_with fail
            refine (validSpan_any p q _).mono ?_
            rw [HOK.out]
            rintro x W8 ⟨rfl, rfl⟩
            have HK := Lib.hid (((HRS.out.alloc (.cells #[.int .i64 p, .int .i64 q] 32)).alloc (.cells #[.int .i64 p, .int .i64 q] 32)).alloc (.cells #[.int .i64 p, .int .i64 q] 32))
            have HKX := Lib.hid ((Blk.new (wr.alloc (.cells #[.int .i64 p, .int .i64 q] 32)) 32 #[.int .i64 p, .int .i64 q]).alloc (.cells #[.int .i64 p, .int .i64 q] 32))
            rw [show (wr.alloc (.cells #[.int .i64 p, .int .i64 q] 32)).heap.size = wr.heap.size + 1 by simp] at HKX
            have HBK := Lib.hid (((HBR.out.alloc HBR.out.size (.cells #[.int .i64 p, .int .i64 q] 32)).alloc (by have := HBR.out.size; simp; omega) (.cells #[.int .i64 p, .int .i64 q] 32)).alloc (by have := HBR.out.size; simp; omega) (.cells #[.int .i64 p, .int .i64 q] 32))
            generalize ((wr.alloc _).alloc _).alloc _ = W9 at HK HKX HBK ⊢
            clear hcv t0 t1 z0 z1
            obtain ⟨t0, t1⟩ : W9.cell? ⟨w.heap.size, 0, none⟩ = some (.int .i64 0) ∧ W9.cell? ⟨w.heap.size, 1, none⟩ = some (.int .i64 0) := ⟨HK.out.cell 0, HK.out.cell 1⟩
            obtain ⟨k0, k1⟩ : W9.cell? ⟨wr.heap.size + 1, 0, none⟩ = some (.int .i64 p) ∧ W9.cell? ⟨wr.heap.size + 1, 1, none⟩ = some (.int .i64 q) := ⟨HKX.out.cell 0, HKX.out.cell 1⟩
            have z0 := HK.out.frozen 0
            have z1 := HK.out.frozen 1
            go_wp2
            exact bodyPost_ret (results_sum _ _ w.heap.size (.int .i64 p) (.int .i64 q) rfl (by first | exact (HK.out.put 0 _).put 1 _ | exact ((HK.out.drewN _).put 0 _).put 1 _)) rfl ⟨by rw [HX.out]; rfl, (by repeat (first | exact HBK.out | refine Below.drew ?_ | refine below_drewN ?_ _ | refine Below.setCell ?_ (by simp <;> omega) _))⟩
end Go.Proofs.YtacmlpgakibdgaaDoor
