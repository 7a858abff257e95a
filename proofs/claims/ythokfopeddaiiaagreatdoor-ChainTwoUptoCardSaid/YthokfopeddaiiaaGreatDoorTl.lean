/-
  Contract: parleylaw27.light: it looks, and says yes or no.
-/
import Derived.Test.YthokfopeddaiiaaGreatDoorGm
import Derived.Test.YthokfopeddaiiaaGreatDoorGq
import Derived.BigQuiet
namespace Go.Proofs.YthokfopeddaiiaaGreatDoor
open Go.RowKit Go.Own Go.Own.Fn Go.Shelf
attribute [local go_sem] Oper.semAt_some
def LightPost (n n1 : Nat) (w : World) (e : Ending) (w' : World) : Prop := ∃ b, e = .returned (.bool b) ∧ (b = true → n ≤ 40 ∧ n1 ≤ 40) ∧ Below w.heap.size w w'
set_option maxHeartbeats 4000000 in
set_option maxRecDepth 100000 in
theorem light_any (A : Option Addr) (n c : Nat) (l : List RuleV) (p : ByteArray) (A1 : Option Addr) (n1 c1 : Nat) (hs : List HdrV) (A2 : Option Addr) (n2 c2 : Nat) (w : World) (hn : n ≤ 100000000 ∧ n1 ≤ 100000000 ∧ n2 ≤ 100000000) (hl : Rs w A n l) (hr : Hr w A1 n1 hs) (hz : (∀ r ∈ l, SzR r) ∧ (∀ h ∈ hs, h.name.size ≤ 1000000000 ∧ h.value.size ≤ 1000000000) ∧ p.size ≤ 1000000000) :
    Calls Tryz.prog 9 #[.slice A n c, .agg #[.string p, .slice A1 n1 c1, .slice A2 n2 c2]] w (LightPost n n1 w) := by
  have HL := Lib.hid hl
  have HR := Lib.hid hr
  have HZ := Lib.hid (And.intro hz.1 hz.2.1)
  have hp := hz.2.2
  obtain ⟨hn0, hn1, hn2⟩ := hn
  clear hl hr hz
  go_enter Tryz.func9, Tryz.ntmps9
  go_upto_region 1 with fail
  have HB0 := Lib.hid (show Below w.heap.size w (w.alloc (.cells #[.string p, .slice A1 n1 c1, .slice A2 n2 c2] 26)) from (Below.refl _ _).alloc (Nat.le_refl _) _)
  have HK0 := Lib.hid (Blk.new w 26 #[.string p, .slice A1 n1 c1, .slice A2 n2 c2])
  generalize w.alloc (.cells #[.string p, .slice A1 n1 c1, .slice A2 n2 c2] 26) = w0 at HB0 HK0 ⊢
  have HKf := Lib.hid (fun W (hW : Below w0.heap.size w0 W) => (show W.cell? ⟨w.heap.size, 0, none⟩ = some (.string p) ∧ W.cell? ⟨w.heap.size, 1, none⟩ = some (.slice A1 n1 c1) ∧ W.cell? ⟨w.heap.size, 2, none⟩ = some (.slice A2 n2 c2) from
    ⟨(HK0.out.below hW HK0.out.lt).cell 0, (HK0.out.below hW HK0.out.lt).cell 1, (HK0.out.below hW HK0.out.lt).cell 2⟩))
  obtain ⟨k0, k1, k2⟩ := HKf.out w0 (Below.refl _ _)
  go_wp2
  go_loopw [5, 6] (fun s i wr => ∃ k : Nat, k ≤ n ∧ k ≤ 41 ∧ i = .int .i64 (k : Int) ∧ (∃ t : Nat, t ≤ 200000 + k * 300000 ∧ s = .int .i64 (t : Int)) ∧ Hid (∃ q, wr = w0.drewN q)) (fun _ i _ => n - (intOf i).toNat)
  case atStart => exact ⟨0, Nat.zero_le _, by omega, rfl, ⟨min p.size 99999 + min n2 99999, by omega, congrArg (Value.int .i64) (by omega)⟩, Lib.hid ⟨0, rfl⟩⟩
  case round =>
    obtain ⟨k, hk, hk41, rfl, ⟨t, ht, rfl⟩, hh⟩ := hrel
    obtain ⟨q, hq⟩ := hh.out
    subst hq
    by_cases hlt : k < n ∧ k ≤ 40
    · obtain ⟨hlt, h40⟩ := hlt
      have HB1 := Lib.hid (below_drewN (Below.refl w0.heap.size w0) q)
      obtain ⟨r, hr⟩ : ∃ r, l[k]? = some r := ⟨_, List.getElem?_eq_getElem (by rw [HL.out.1]; exact hlt)⟩
      obtain ⟨ad, rfl, h1, h2, h4, h5, _, _, _⟩ := (HL.out.below HB0.out).at_ hr
      obtain ⟨s1, s2, s3⟩ := HZ.out.1 r (List.mem_of_getElem? hr)
      obtain ⟨rp, rn, rv, rk, rc, ri⟩ := r
      simp only at h2 h4 h5 s1 s2 s3
      have i0 : (0 : Int) ≤ (k : Int) := by omega
      have i1 : (k : Int) < (n : Int) := by omega
      have t0 : (t : Int) ≤ 20000000 := by omega
      clear hr h1
      go_wp2
      go_quiet (fail)
      go_wp2
      exact ⟨⟨k + 1, by omega, by omega, by go_num, ⟨t + min rp.size 99999 + min rn.size 99999 + min rv.size 99999, by omega, congrArg (Value.int .i64) (by omega)⟩, Lib.hid ⟨_, rfl⟩⟩, by simp [intOf]; omega⟩
    · have HT := Lib.hid (show t ≤ 12500000 from by omega)
      have hex : (n ≤ k) ∨ (40 < k ∧ k < n) := by omega
      rcases hex with he | ⟨he, he2⟩
      · have i1 : ¬ ((k : Int) < (n : Int)) := by omega
        clear ht
        go_wp2
        go_loopw [5, 7] (fun s i wr => ∃ j : Nat, j ≤ n1 ∧ j ≤ 41 ∧ i = .int .i64 (j : Int) ∧ (∃ t : Nat, t ≤ 12500000 + j * 200000 ∧ s = .int .i64 (t : Int)) ∧ Hid (∃ q, wr = w0.drewN q)) (fun _ i _ => n1 - (intOf i).toNat)
        case atStart => exact ⟨0, Nat.zero_le _, by omega, rfl, ⟨t, by have := HT.out; omega, rfl⟩, Lib.hid ⟨_, rfl⟩⟩
        case round =>
          obtain ⟨j, hj, hj41, rfl, ⟨t2, ht2, rfl⟩, hh2⟩ := hrel
          obtain ⟨q2, hq2⟩ := hh2.out
          subst hq2
          by_cases hlt2 : j < n1 ∧ j ≤ 40
          · obtain ⟨hlt2, h40⟩ := hlt2
            obtain ⟨ad1, x, rfl, hx, a0, a1, a2⟩ := (HR.out.below HB0.out).at2 hlt2
            obtain ⟨s1, s2⟩ := HZ.out.2 x (List.mem_of_getElem? hx)
            obtain ⟨xn, xv, xb⟩ := x
            simp only at a0 a1 a2 s1 s2
            have j0 : (0 : Int) ≤ (j : Int) := by omega
            have j1 : (j : Int) < (n1 : Int) := by omega
            have t0 : (t2 : Int) ≤ 30000000 := by omega
            clear hx
            go_wp2
            go_quiet (fail)
            go_wp2
            exact ⟨⟨j + 1, by omega, by omega, by go_num, ⟨t2 + min xn.size 99999 + min xv.size 99999, by omega, congrArg (Value.int .i64) (by omega)⟩, Lib.hid ⟨_, rfl⟩⟩, by simp [intOf]; omega⟩
          · have HB9 := Lib.hid (below_drewN (Below.refl w0.heap.size w0) q2)
            have hex2 : (n1 ≤ j) ∨ (40 < j ∧ j < n1) := by omega
            rcases hex2 with he3 | ⟨he3, he4⟩
            · have i3 : ¬ ((j : Int) < (n1 : Int)) := by omega
              by_cases e1 : n ≤ 40
              · have e1d : decide ((n : Int) ≤ 40) = true := decide_eq_true (by omega)
                by_cases e2 : n1 ≤ 40
                · have e2d : decide ((n1 : Int) ≤ 40) = true := decide_eq_true (by omega)
                  by_cases e3 : t2 ≤ 20000
                  · have e3d : decide ((t2 : Int) ≤ 20000) = true := decide_eq_true (by omega)
                    first
                      | (exfalso; omega)
                      | (go_wp2
                         go_ret
                         exact ⟨true, rfl, fun _ => ⟨e1, e2⟩, HB0.out.trans (HB9.out.mono HB0.out.size)⟩)
                  · have e3d : decide ((t2 : Int) ≤ 20000) = false := decide_eq_false (by omega)
                    first
                      | (exfalso; omega)
                      | (go_wp2
                         go_ret
                         exact ⟨false, rfl, (fun h => Bool.noConfusion h), HB0.out.trans (HB9.out.mono HB0.out.size)⟩)
                · have e2d : decide ((n1 : Int) ≤ 40) = false := decide_eq_false (by omega)
                  first
                    | (exfalso; omega)
                    | (go_wp2
                       go_ret
                       exact ⟨false, rfl, (fun h => Bool.noConfusion h), HB0.out.trans (HB9.out.mono HB0.out.size)⟩)
              · have e1d : decide ((n : Int) ≤ 40) = false := decide_eq_false (by omega)
                first
                  | (exfalso; omega)
                  | (go_wp2
                     go_ret
                     exact ⟨false, rfl, (fun h => Bool.noConfusion h), HB0.out.trans (HB9.out.mono HB0.out.size)⟩)
            · have i3 : (j : Int) < (n1 : Int) := by omega
              have i4 : ¬ ((j : Int) ≤ 40) := by omega
              by_cases e1 : n ≤ 40
              · have e1d : decide ((n : Int) ≤ 40) = true := decide_eq_true (by omega)
                by_cases e2 : n1 ≤ 40
                · have e2d : decide ((n1 : Int) ≤ 40) = true := decide_eq_true (by omega)
                  by_cases e3 : t2 ≤ 20000
                  · have e3d : decide ((t2 : Int) ≤ 20000) = true := decide_eq_true (by omega)
                    first
                      | (exfalso; omega)
                      | (go_wp2
                         go_ret
                         exact ⟨true, rfl, fun _ => ⟨e1, e2⟩, HB0.out.trans (HB9.out.mono HB0.out.size)⟩)
                  · have e3d : decide ((t2 : Int) ≤ 20000) = false := decide_eq_false (by omega)
                    first
                      | (exfalso; omega)
                      | (go_wp2
                         go_ret
                         exact ⟨false, rfl, (fun h => Bool.noConfusion h), HB0.out.trans (HB9.out.mono HB0.out.size)⟩)
                · have e2d : decide ((n1 : Int) ≤ 40) = false := decide_eq_false (by omega)
                  first
                    | (exfalso; omega)
                    | (go_wp2
                       go_ret
                       exact ⟨false, rfl, (fun h => Bool.noConfusion h), HB0.out.trans (HB9.out.mono HB0.out.size)⟩)
              · have e1d : decide ((n : Int) ≤ 40) = false := decide_eq_false (by omega)
                first
                  | (exfalso; omega)
                  | (go_wp2
                     go_ret
                     exact ⟨false, rfl, (fun h => Bool.noConfusion h), HB0.out.trans (HB9.out.mono HB0.out.size)⟩)
      · have i1 : (k : Int) < (n : Int) := by omega
        have i2 : ¬ ((k : Int) ≤ 40) := by omega
        clear ht
        go_wp2
        go_loopw [5, 7] (fun s i wr => ∃ j : Nat, j ≤ n1 ∧ j ≤ 41 ∧ i = .int .i64 (j : Int) ∧ (∃ t : Nat, t ≤ 12500000 + j * 200000 ∧ s = .int .i64 (t : Int)) ∧ Hid (∃ q, wr = w0.drewN q)) (fun _ i _ => n1 - (intOf i).toNat)
        case atStart => exact ⟨0, Nat.zero_le _, by omega, rfl, ⟨t, by have := HT.out; omega, rfl⟩, Lib.hid ⟨_, rfl⟩⟩
        case round =>
          obtain ⟨j, hj, hj41, rfl, ⟨t2, ht2, rfl⟩, hh2⟩ := hrel
          obtain ⟨q2, hq2⟩ := hh2.out
          subst hq2
          by_cases hlt2 : j < n1 ∧ j ≤ 40
          · obtain ⟨hlt2, h40⟩ := hlt2
            obtain ⟨ad1, x, rfl, hx, a0, a1, a2⟩ := (HR.out.below HB0.out).at2 hlt2
            obtain ⟨s1, s2⟩ := HZ.out.2 x (List.mem_of_getElem? hx)
            obtain ⟨xn, xv, xb⟩ := x
            simp only at a0 a1 a2 s1 s2
            have j0 : (0 : Int) ≤ (j : Int) := by omega
            have j1 : (j : Int) < (n1 : Int) := by omega
            have t0 : (t2 : Int) ≤ 30000000 := by omega
            clear hx
            go_wp2
            go_quiet (fail)
            go_wp2
            exact ⟨⟨j + 1, by omega, by omega, by go_num, ⟨t2 + min xn.size 99999 + min xv.size 99999, by omega, congrArg (Value.int .i64) (by omega)⟩, Lib.hid ⟨_, rfl⟩⟩, by simp [intOf]; omega⟩
          · have HB9 := Lib.hid (below_drewN (Below.refl w0.heap.size w0) q2)
            have hex2 : (n1 ≤ j) ∨ (40 < j ∧ j < n1) := by omega
            rcases hex2 with he3 | ⟨he3, he4⟩
            · have i3 : ¬ ((j : Int) < (n1 : Int)) := by omega
              by_cases e1 : n ≤ 40
              · have e1d : decide ((n : Int) ≤ 40) = true := decide_eq_true (by omega)
                by_cases e2 : n1 ≤ 40
                · have e2d : decide ((n1 : Int) ≤ 40) = true := decide_eq_true (by omega)
                  by_cases e3 : t2 ≤ 20000
                  · have e3d : decide ((t2 : Int) ≤ 20000) = true := decide_eq_true (by omega)
                    first
                      | (exfalso; omega)
                      | (go_wp2
                         go_ret
                         exact ⟨true, rfl, fun _ => ⟨e1, e2⟩, HB0.out.trans (HB9.out.mono HB0.out.size)⟩)
                  · have e3d : decide ((t2 : Int) ≤ 20000) = false := decide_eq_false (by omega)
                    first
                      | (exfalso; omega)
                      | (go_wp2
                         go_ret
                         exact ⟨false, rfl, (fun h => Bool.noConfusion h), HB0.out.trans (HB9.out.mono HB0.out.size)⟩)
                · have e2d : decide ((n1 : Int) ≤ 40) = false := decide_eq_false (by omega)
                  first
                    | (exfalso; omega)
                    | (go_wp2
                       go_ret
                       exact ⟨false, rfl, (fun h => Bool.noConfusion h), HB0.out.trans (HB9.out.mono HB0.out.size)⟩)
              · have e1d : decide ((n : Int) ≤ 40) = false := decide_eq_false (by omega)
                first
                  | (exfalso; omega)
                  | (go_wp2
                     go_ret
                     exact ⟨false, rfl, (fun h => Bool.noConfusion h), HB0.out.trans (HB9.out.mono HB0.out.size)⟩)
            · have i3 : (j : Int) < (n1 : Int) := by omega
              have i4 : ¬ ((j : Int) ≤ 40) := by omega
              by_cases e1 : n ≤ 40
              · have e1d : decide ((n : Int) ≤ 40) = true := decide_eq_true (by omega)
                by_cases e2 : n1 ≤ 40
                · have e2d : decide ((n1 : Int) ≤ 40) = true := decide_eq_true (by omega)
                  by_cases e3 : t2 ≤ 20000
                  · have e3d : decide ((t2 : Int) ≤ 20000) = true := decide_eq_true (by omega)
                    first
                      | (exfalso; omega)
                      | (go_wp2
                         go_ret
                         exact ⟨true, rfl, fun _ => ⟨e1, e2⟩, HB0.out.trans (HB9.out.mono HB0.out.size)⟩)
                  · have e3d : decide ((t2 : Int) ≤ 20000) = false := decide_eq_false (by omega)
                    first
                      | (exfalso; omega)
                      | (go_wp2
                         go_ret
                         exact ⟨false, rfl, (fun h => Bool.noConfusion h), HB0.out.trans (HB9.out.mono HB0.out.size)⟩)
                · have e2d : decide ((n1 : Int) ≤ 40) = false := decide_eq_false (by omega)
                  first
                    | (exfalso; omega)
                    | (go_wp2
                       go_ret
                       exact ⟨false, rfl, (fun h => Bool.noConfusion h), HB0.out.trans (HB9.out.mono HB0.out.size)⟩)
              · have e1d : decide ((n : Int) ≤ 40) = false := decide_eq_false (by omega)
                first
                  | (exfalso; omega)
                  | (go_wp2
                     go_ret
                     exact ⟨false, rfl, (fun h => Bool.noConfusion h), HB0.out.trans (HB9.out.mono HB0.out.size)⟩)
end Go.Proofs.YthokfopeddaiiaaGreatDoor
