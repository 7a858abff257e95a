/-
  Contract: grpc.Trailers: the headers of a status.
-/
import Derived.Test.YtoafmhbgbofgoaaGreatDoorRe
import Derived.Test.YtoafmhbgbofgoaaGreatDoorPct
namespace Go.Own.Gb
open Go Go.Own.Hd
def cdH (k : Nat) : HdrV := ⟨⟨#[103, 114, 112, 99, 45, 115, 116, 97, 116, 117, 115]⟩, decT k, false⟩
def msH (t : ByteArray) : HdrV := ⟨⟨#[103, 114, 112, 99, 45, 109, 101, 115, 115, 97, 103, 101]⟩, ⟨(Grpc.pct t.data.toList).toArray⟩, false⟩
def msL (t : ByteArray) : List HdrV := if t.data.toList = [] then [] else [msH t]
end Go.Own.Gb
namespace Go.Proofs.YtoafmhbgbofgoaaGreatDoor
open Go.RowKit Go.Own Go.Own.Hd Go.Own.Gb Go.Own.B64 Go.WideShapes Go.Proofs.YtoafmhbgbofgoaaGreatDoor.Gp
attribute [local go_sem] Oper.semAt_some
def TwPost (code : Int) (t : ByteArray) (R : List HdrV) (w : World) (e : Ending) (w' : World) : Prop :=
  Below w.heap.size w w' ∧ ((∃ a, e = .returned (.tuple #[.slice none 0 0, .iface 164 (.pointer (some a))])) ∨
    (R.all goodB = true ∧ ∃ k : Nat, k ≤ 16 ∧ code = (k : Int) ∧ ∃ A' n' c', e = .returned (.tuple #[.slice A' n' c', .nilIface]) ∧ n' ≤ c' ∧ n' ≤ 70 ∧ Hw w' w.heap.size (.slice A' n' c') ([cdH k] ++ msL t ++ R.map wr1)))
set_option maxHeartbeats 8000000 in
set_option maxRecDepth 100000 in
theorem trailersW_any (code : Int) (t : ByteArray) (AR : Option Addr) (n c : Nat) (R : List HdrV) (w : World) {e1 e2 e3 g1 g2 g3 g4 : Addr} (he : EnvH w e1 e2 e3) (hg : EnvG w g1 g2 g3 g4) (hn : n ≤ 60) (hr : Hr w AR n R) (hz : Szk R) (ht : t.size ≤ 3000) :
    Calls Tryz.prog 12 #[.agg #[.int .i64 code, .string t, .slice AR n c]] w (TwPost code t R w) := by
  have HE := Lib.hid he
  have HG := Lib.hid hg
  have HR := Lib.hid hr
  have HRL := Lib.hid hr.1
  have HZ := Lib.hid hz
  clear he hg hr hz
  go_enter Tryz.func12, Tryz.ntmps12
  go_upto_region 1 with fail
  have HB0 := Lib.hid (show Below w.heap.size w (w.alloc (.cells #[.int .i64 code, .string t, .slice AR n c] 47)) from (Below.refl _ _).alloc (Nat.le_refl _) _)
  have HK0 := Lib.hid (Blk.new w 47 #[.int .i64 code, .string t, .slice AR n c])
  generalize w.alloc (.cells #[.int .i64 code, .string t, .slice AR n c] 47) = w0 at HB0 HK0 ⊢
  have HKf := Lib.hid (fun W (hW : Below w0.heap.size w0 W) => (show W.cell? ⟨w.heap.size, 0, none⟩ = some (.int .i64 code) ∧ W.cell? ⟨w.heap.size, 1, none⟩ = some (.string t) ∧ W.cell? ⟨w.heap.size, 2, none⟩ = some (.slice AR n c) from
    have h := HK0.out.below hW HK0.out.lt
    ⟨h.cell 0, h.cell 1, h.cell 2⟩))
  have k2 := (HKf.out w0 (Below.refl _ _)).2.2
  go_wp2_with fail
  refine (write_any AR n c R w0 (HE.out.below HB0.out HE.out.room) (by omega) (HR.out.below HB0.out) HZ.out).mono ?_
  rintro e w1 ⟨g1, h1⟩
  have HJ1 := Lib.hid g1
  clear g1 k2
  have HJB := Lib.hid (fun W (hW : Below w1.heap.size w1 W) => (show Below w.heap.size w W from HB0.out.trans ((HJ1.out.trans (hW.mono HJ1.out.size)).mono HB0.out.size)))
  have HVf := Lib.hid (fun W (hW : Below w1.heap.size w1 W) => (HG.out.below (HJB.out W hW) (Nat.le_trans (by decide) HE.out.room)).value)
  rcases h1 with ⟨_, rfl⟩ | ⟨hgd, A1, c1, rfl, hc1, hw1⟩
  · have q4 := HVf.out w1 (Below.refl _ _)
    go_wp2_with fail
    go_quiet (fail)
    go_wp2
    go_ret2
    exact ⟨below_drewN (HJB.out _ (Below.refl _ _)) _, .inl ⟨_, rfl⟩⟩
  · have HGD := Lib.hid hgd
    have HW1 := Lib.hid hw1
    clear hgd hw1
    replace HKf := Lib.hid (fun W (hW : Below w1.heap.size w1 W) => HKf.out W (HJ1.out.trans (hW.mono HJ1.out.size)))
    have k0 := (HKf.out w1 (Below.refl _ _)).1
    have k1 := (HKf.out w1 (Below.refl _ _)).2.1
    by_cases hneg : code < 0
    · have q4 := HVf.out w1 (Below.refl _ _)
      go_wp2_with fail
      go_quiet (fail)
      go_wp2
      go_ret2
      exact ⟨below_drewN (HJB.out _ (Below.refl _ _)) _, .inl ⟨_, rfl⟩⟩
    · by_cases hbig : 16 < code
      · have q4 := HVf.out w1 (Below.refl _ _)
        go_wp2_with fail
        go_quiet (fail)
        go_wp2
        go_ret2
        exact ⟨below_drewN (HJB.out _ (Below.refl _ _)) _, .inl ⟨_, rfl⟩⟩
      · obtain ⟨k, hk⟩ : ∃ k : Nat, code = (k : Int) := ⟨code.toNat, by omega⟩
        have hk16 : k ≤ 16 := by omega
        have HKC := Lib.hid hk
        clear hk
        go_wp2_with fail
        refine (itoa_any code w1 (by omega) (by omega) (HE.out.below (HJB.out _ (Below.refl _ _)) HE.out.room)).mono ?_
        rintro e w2 ⟨he2, g2⟩
        rw [HKC.out, Lib.itoa_nonneg] at he2
        replace he2 : e = .returned (.string (decT k)) := he2
        subst he2
        have G2 := Lib.hid g2
        clear g2 k0 k1
        go_upto_region 5 with fail
        have G3 := Lib.hid (G2.out.alloc G2.out.size (.cells #[.string ⟨#[103, 114, 112, 99, 45, 115, 116, 97, 116, 117, 115]⟩, .string (decT k), .bool false] 67))
        have HO3 := Lib.hid (show Hw (w2.alloc (.cells #[.string ⟨#[103, 114, 112, 99, 45, 115, 116, 97, 116, 117, 115]⟩, .string (decT k), .bool false] 67)) w1.heap.size (.slice (some ⟨w2.heap.size, 0, none⟩) 1 1) [cdH k] from (hw_lit w2 [cdH k] (by simp)).base G2.out.size)
        generalize w2.alloc (.cells #[.string ⟨#[103, 114, 112, 99, 45, 115, 116, 97, 116, 117, 115]⟩, .string (decT k), .bool false] 67) = w3 at G3 HO3 ⊢
        obtain ⟨A3, hA3⟩ : ∃ A, (some ⟨w2.heap.size, 0, none⟩ : Option Addr) = A := ⟨_, rfl⟩
        rw [hA3] at HO3 ⊢
        clear hA3 G2
        have k1 := (HKf.out w3 G3.out).2.1
        by_cases hte : t.data.toList = []
        · have hq : t.toList.isEmpty = true := by rw [Lib.toList_data, hte]; rfl
          have HML := Lib.hid (show msL t = [] from if_pos hte)
          have HT0 := Lib.hid hte
          clear hte
          have HO7 := Lib.hid (show Hw w3 w1.heap.size (.slice A3 1 1) ([cdH k] ++ []) from HO3.out)
          have HL8 := Lib.hid (show ([cdH k] ++ [] ++ R.map wr1).length ≤ 70 from by rw [List.length_append, List.length_map]; have := HRL.out; show 1 + R.length ≤ 70; omega)
          have HB8 := Lib.hid (show ([cdH k] ++ ([] : List HdrV)).length + R.length ≤ 1000 from by have := HRL.out; show 1 + R.length ≤ 1000; omega)
          go_wp2_with (at_builtin
                       refine wpList_app_hg _ rfl (.tmp 41) (.tmp 42) rfl w1.heap.size (.slice A3 1 1) ([cdH k] ++ []) rfl HO7.out A1 R.length c1 (R.map wr1) rfl (HW1.out.below G3.out).hr HB8.out G3.out.size ?_
                       intro v8 w8 hown hg8 hv
                       have HJ8 := Lib.hid (show Below w1.heap.size w1 w8 from G3.out.grown hg8 G3.out.size (fun j e => (HO7.out.lt j e).1))
                       obtain ⟨A8, c8, e8, hc8, _⟩ := hown.form
                       have hl8 := HL8.out
                       have HO8 := Lib.hid hown
                       obtain ⟨n8, hn8⟩ : ∃ n8, ([cdH k] ++ [] ++ R.map wr1).length = n8 := ⟨_, rfl⟩
                       rw [hn8] at e8 hc8 hl8
                       subst e8
                       have HN8 := Lib.hid (And.intro hl8 hc8)
                       clear hown hg8 hv hn8 hc8 hl8)
          go_ret2
          exact ⟨HJB.out _ HJ8.out, .inr ⟨HGD.out, k, hk16, HKC.out, A8, n8, c8, rfl, HN8.out.2, HN8.out.1, by rw [HML.out]; exact HO8.out.base (HJB.out w1 (Below.refl _ _)).size⟩⟩
        · have hq : t.toList.isEmpty = false := by rw [Lib.toList_data, Bool.eq_false_iff]; intro h; exact hte (List.isEmpty_iff.1 h)
          have HML := Lib.hid (show msL t = [msH t] from if_neg hte)
          obtain ⟨pt, hpt⟩ : ∃ p : ByteArray, (⟨(Grpc.pct t.data.toList).toArray⟩ : ByteArray) = p := ⟨_, rfl⟩
          have HMH := Lib.hid (show msH t = ⟨⟨#[103, 114, 112, 99, 45, 109, 101, 115, 115, 97, 103, 101]⟩, pt, false⟩ from by unfold msH; rw [hpt])
          have HPc := percent_any t w3 _ _ _ _ (HG.out.below (HJB.out _ G3.out) (Nat.le_trans (by decide) HE.out.room)) (by omega)
          rw [hpt] at HPc
          clear hpt
          go_wp2_with fail
          refine HPc.mono ?_
          rintro e w4 ⟨rfl, g4⟩
          have G4 := Lib.hid (G3.out.trans (g4.mono G3.out.size))
          have HO4 := Lib.hid (HO3.out.below g4)
          clear g4 HPc k1
          have HM0 := Lib.hid (show Hw (w4.alloc (.cells #[.string ⟨#[103, 114, 112, 99, 45, 109, 101, 115, 115, 97, 103, 101]⟩, .string pt, .bool false] 67)) w4.heap.size (.slice (some ⟨w4.heap.size, 0, none⟩) 1 1) [msH t] from by rw [HMH.out]; exact hw_lit w4 [⟨⟨#[103, 114, 112, 99, 45, 109, 101, 115, 115, 97, 103, 101]⟩, pt, false⟩] (by simp))
          have G4a := Lib.hid (G4.out.alloc G4.out.size (.cells #[.string ⟨#[103, 114, 112, 99, 45, 109, 101, 115, 115, 97, 103, 101]⟩, .string pt, .bool false] 67))
          have HL8 := Lib.hid (show ([cdH k] ++ [msH t] ++ R.map wr1).length ≤ 70 from by rw [List.length_append, List.length_map]; have := HRL.out; show 2 + R.length ≤ 70; omega)
          have HB8 := Lib.hid (show ([cdH k] ++ ([msH t] : List HdrV)).length + R.length ≤ 1000 from by have := HRL.out; show 2 + R.length ≤ 1000; omega)
          have HB9 := Lib.hid (show ([cdH k] : List HdrV).length + 1 ≤ 1000 from by show 1 + 1 ≤ 1000; decide)
          have HO4a := Lib.hid (show Hw (w4.alloc (.cells #[.string ⟨#[103, 114, 112, 99, 45, 109, 101, 115, 115, 97, 103, 101]⟩, .string pt, .bool false] 67)) w1.heap.size (.slice A3 1 1) [cdH k] from HO4.out.below ((Below.refl _ _).alloc (Nat.le_refl _) _))
          go_wp2_with (first
            | (at_builtin
               refine wpList_app_hg _ rfl (.tmp 34) (.tmp 39) rfl w1.heap.size (.slice A3 1 1) [cdH k] rfl HO4a.out (some ⟨w4.heap.size, 0, none⟩) 1 1 [msH t] rfl HM0.out.hr HB9.out G4a.out.size ?_
               intro v7 w7 hown hg7 hv
               have HO7 := Lib.hid (show Hw w7 w1.heap.size v7 ([cdH k] ++ [msH t]) from hown)
               have HJ7 := Lib.hid (show Below w1.heap.size w1 w7 from G4a.out.grown hg7 G4a.out.size (fun j e => (HO4a.out.lt j e).1))
               clear hown hg7 hv)
            | (at_builtin
               refine wpList_app_hg _ rfl (.tmp 41) (.tmp 42) rfl w1.heap.size v7 ([cdH k] ++ [msH t]) rfl HO7.out A1 R.length c1 (R.map wr1) rfl (HW1.out.below HJ7.out).hr HB8.out HJ7.out.size ?_
               intro v8 w8 hown hg8 hv
               have HJ8 := Lib.hid (show Below w1.heap.size w1 w8 from HJ7.out.grown hg8 HJ7.out.size (fun j e => (HO7.out.lt j e).1))
               obtain ⟨A8, c8, e8, hc8, _⟩ := hown.form
               have hl8 := HL8.out
               have HO8 := Lib.hid hown
               obtain ⟨n8, hn8⟩ : ∃ n8, ([cdH k] ++ [msH t] ++ R.map wr1).length = n8 := ⟨_, rfl⟩
               rw [hn8] at e8 hc8 hl8
               subst e8
               have HN8 := Lib.hid (And.intro hl8 hc8)
               clear hown hg8 hv hn8 hc8 hl8))
          go_ret2
          exact ⟨HJB.out _ HJ8.out, .inr ⟨HGD.out, k, hk16, HKC.out, A8, n8, c8, rfl, HN8.out.2, HN8.out.1, by rw [HML.out]; exact HO8.out.base (HJB.out w1 (Below.refl _ _)).size⟩⟩
end Go.Proofs.YtoafmhbgbofgoaaGreatDoor
