/-
  Contract: grpc.Answer.
-/
import Derived.Test.YtoafmhbgbofgoaaGreatDoorRe
namespace Go.Own.Gb
open Go Go.Own.Hd
def stH : HdrV := ⟨⟨#[58, 115, 116, 97, 116, 117, 115]⟩, ⟨#[50, 48, 48]⟩, false⟩
end Go.Own.Gb
namespace Go.Proofs.YtoafmhbgbofgoaaGreatDoor
open Go.RowKit Go.Own Go.Own.Hd Go.Own.Gb Go.Own.B64 Go.WideShapes Go.Proofs.YtoafmhbgbofgoaaGreatDoor.Gp
attribute [local go_sem] Oper.semAt_some
def AwPost (R : List HdrV) (w : World) (e : Ending) (w' : World) : Prop :=
  Below w.heap.size w w' ∧ ((∃ a, e = .returned (.tuple #[.slice none 0 0, .iface 164 (.pointer (some a))])) ∨
    (R.all goodB = true ∧ ∃ A' n' c', e = .returned (.tuple #[.slice A' n' c', .nilIface]) ∧ n' ≤ c' ∧ n' ≤ 70 ∧ Hw w' w.heap.size (.slice A' n' c') ([stH, ctH] ++ R.map wr1)))
theorem ans_good (R : List HdrV) (h : R.all goodB = true) : okB rules1 0 ([stH, ctH] ++ R.map wr1) = true := by
  refine (open_iff _).2 ⟨[stH], ctH :: R.map wr1, rfl, by decide, ?_, by decide +kernel⟩
  rw [List.all_cons, wired_plain R h, Bool.and_true]
  decide +kernel
set_option maxHeartbeats 8000000 in
set_option maxRecDepth 100000 in
theorem answer_any (AR : Option Addr) (n c : Nat) (R : List HdrV) (w : World) {e1 e2 e3 g1 g2 g3 g4 : Addr} (he : EnvH w e1 e2 e3) (hg : EnvG w g1 g2 g3 g4) (hn : n ≤ 60) (hr : Hr w AR n R) (hz : Szk R) :
    Calls Tryz.prog 10 #[.slice AR n c] w (AwPost R w) := by
  have HE := Lib.hid he
  have HG := Lib.hid hg
  have HRL := Lib.hid hr.1
  have HWr := Lib.hid (write_any AR n c R w he (by omega) hr hz)
  clear he hg hr
  go_enter Tryz.func10, Tryz.ntmps10
  go_wp2_with fail
  refine HWr.out.mono ?_
  rintro e w1 ⟨g1, h1⟩
  have HJ1 := Lib.hid g1
  clear g1
  rcases h1 with ⟨_, rfl⟩ | ⟨hgd, A1, c1, rfl, hc1, hw1⟩
  · have q4 := (HG.out.below HJ1.out (Nat.le_trans (by decide) HE.out.room)).value
    go_wp2_with fail
    go_quiet (fail)
    go_wp2
    go_ret2
    exact ⟨below_drewN HJ1.out _, .inl ⟨_, rfl⟩⟩
  · have HGD := Lib.hid hgd
    have HW1 := Lib.hid hw1
    clear hgd hw1
    go_wp2_with fail
    refine (typed_any w1).mono ?_
    rintro e w2 ⟨rfl, g2⟩
    have G2 := Lib.hid g2
    clear g2
    have HA := Lib.hid (G2.out.alloc G2.out.size (.cells #[.string ⟨#[58, 115, 116, 97, 116, 117, 115]⟩, .string ⟨#[50, 48, 48]⟩, .bool false, .string ⟨#[99, 111, 110, 116, 101, 110, 116, 45, 116, 121, 112, 101]⟩, .string ⟨#[97, 112, 112, 108, 105, 99, 97, 116, 105, 111, 110, 47, 103, 114, 112, 99]⟩, .bool false] 67))
    have HO := Lib.hid (show Hw (w2.alloc (.cells #[.string ⟨#[58, 115, 116, 97, 116, 117, 115]⟩, .string ⟨#[50, 48, 48]⟩, .bool false, .string ⟨#[99, 111, 110, 116, 101, 110, 116, 45, 116, 121, 112, 101]⟩, .string ⟨#[97, 112, 112, 108, 105, 99, 97, 116, 105, 111, 110, 47, 103, 114, 112, 99]⟩, .bool false] 67)) w2.heap.size (.slice (some ⟨w2.heap.size, 0, none⟩) 2 2) [stH, ctH] from hw_lit w2 [stH, ctH] (by simp))
    go_wp2_with (at_builtin
                 refine wpList_app_hg _ rfl (.tmp 16) (.tmp 17) rfl w1.heap.size (.slice (some ⟨w2.heap.size, 0, none⟩) 2 2) [stH, ctH] rfl (HO.out.base G2.out.size) A1 R.length c1 (R.map wr1) rfl (HW1.out.below HA.out).hr (by have := HRL.out; simp; omega) HA.out.size ?_
                 intro v8 w8 hown hg8 hv
                 have HJ8 := Lib.hid (show Below w1.heap.size w1 w8 from HA.out.grown hg8 HA.out.size (fun j e => ((HO.out.base G2.out.size).lt j e).1))
                 obtain ⟨A8, c8, e8, hc8, _⟩ := hown.form
                 have hl8 : ([stH, ctH] ++ R.map wr1).length ≤ 70 := by have := HRL.out; simp; omega
                 have HO8 := Lib.hid hown
                 obtain ⟨n8, hn8⟩ : ∃ n8, ([stH, ctH] ++ R.map wr1).length = n8 := ⟨_, rfl⟩
                 rw [hn8] at e8 hc8 hl8
                 subst e8
                 have HN8 := Lib.hid (And.intro hl8 hc8)
                 clear hown hg8 hv hn8 hc8 hl8)
    go_ret2
    exact ⟨HJ1.out.trans (HJ8.out.mono HJ1.out.size), .inr ⟨HGD.out, A8, n8, c8, rfl, HN8.out.2, HN8.out.1, HO8.out.base HJ1.out.size⟩⟩
end Go.Proofs.YtoafmhbgbofgoaaGreatDoor
