/-
  Contracts: grpc.units; Untimeout and Timeout at the chapter's examples.
-/
import Derived.Test.YtoafmhbgbofgoaaGreatDoorMap
import Derived.Test.YtoafmhbgbofgoaaGreatDoorEnv
import Derived.Deep.RegionHeld3
import Derived.Deep.RegionWith
import Derived.Outline
import Derived.Lib.AtoiErrMem
import Derived.Lib.AppendIntMem
import Derived.Lib.SlBytesConst
namespace Go.Proofs.YtoafmhbgbofgoaaGreatDoor.Gp
open Go.RowKit Go.Own

def unitsMap : Obj := .map #[entB 72 3600000000000 0, entB 77 60000000000 1, entB 83 1000000000 2, entB 109 1000000 3, entB 117 1000 4, entB 110 1 5] 6
set_option maxHeartbeats 1000000 in
theorem units_any (w : World) :
    Calls Tryz.prog 45 #[] w fun e w' => e = .returned (.map (some w.heap.size)) ∧ Below w.heap.size w w' ∧ w'.heap[w.heap.size]? = some unitsMap := by
  have hmm := @run_mkMap Tryz.prog
  go_enter Tryz.func45, Tryz.ntmps45
  go_wp2_with (first
    | ((with_reducible refine wpList_mapPut _ rfl (.tmp 1) (.const (.int .u8 72)) (.const (.int .i64 3600000000000)) rfl Tryz.underlying88 Tryz.underlying5 w.heap.size 0 #[] _ _ rfl rfl rfl ?_ ?_ ?_ ?_)
       · exact rfl
       · exact heap_alloc_new w _
       · rfl
       intro w1 hm1 hg1 hz1)
    | ((with_reducible refine wpList_mapPut _ rfl (.tmp 1) (.const (.int .u8 77)) (.const (.int .i64 60000000000)) rfl Tryz.underlying88 Tryz.underlying5 w.heap.size 1 #[entB 72 3600000000000 0] _ _ rfl rfl rfl ?_ ?_ ?_ ?_)
       · exact rfl
       · exact hm1
       · rfl
       intro w2 hm2 hg2 hz2)
    | ((with_reducible refine wpList_mapPut _ rfl (.tmp 1) (.const (.int .u8 83)) (.const (.int .i64 1000000000)) rfl Tryz.underlying88 Tryz.underlying5 w.heap.size 2 #[entB 72 3600000000000 0, entB 77 60000000000 1] _ _ rfl rfl rfl ?_ ?_ ?_ ?_)
       · exact rfl
       · exact hm2
       · rfl
       intro w3 hm3 hg3 hz3)
    | ((with_reducible refine wpList_mapPut _ rfl (.tmp 1) (.const (.int .u8 109)) (.const (.int .i64 1000000)) rfl Tryz.underlying88 Tryz.underlying5 w.heap.size 3 #[entB 72 3600000000000 0, entB 77 60000000000 1, entB 83 1000000000 2] _ _ rfl rfl rfl ?_ ?_ ?_ ?_)
       · exact rfl
       · exact hm3
       · rfl
       intro w4 hm4 hg4 hz4)
    | ((with_reducible refine wpList_mapPut _ rfl (.tmp 1) (.const (.int .u8 117)) (.const (.int .i64 1000)) rfl Tryz.underlying88 Tryz.underlying5 w.heap.size 4 #[entB 72 3600000000000 0, entB 77 60000000000 1, entB 83 1000000000 2, entB 109 1000000 3] _ _ rfl rfl rfl ?_ ?_ ?_ ?_)
       · exact rfl
       · exact hm4
       · rfl
       intro w5 hm5 hg5 hz5)
    | ((with_reducible refine wpList_mapPut _ rfl (.tmp 1) (.const (.int .u8 110)) (.const (.int .i64 1)) rfl Tryz.underlying88 Tryz.underlying5 w.heap.size 5 #[entB 72 3600000000000 0, entB 77 60000000000 1, entB 83 1000000000 2, entB 109 1000000 3, entB 117 1000 4] _ _ rfl rfl rfl ?_ ?_ ?_ ?_)
       · exact rfl
       · exact hm5
       · rfl
       intro w6 hm6 hg6 hz6))
  go_ret
  refine ⟨rfl, ?_, hm6⟩
  have b1 : Below w.heap.size w w1 := ((Below.refl _ _).alloc (Nat.le_refl _) _).grown hg1 (by simp) (by simp)
  have b2 := b1.grown hg2 b1.size (by simp)
  have b3 := b2.grown hg3 b2.size (by simp)
  have b4 := b3.grown hg4 b3.size (by simp)
  have b5 := b4.grown hg5 b4.size (by simp)
  exact b5.grown hg6 b5.size (by simp)

theorem look_units (r : Nat) (k v : Int) (W : World) (hb : W.heap[r]? = some unitsMap) (i : Nat) (hf : Instr.findNow (.int .u8) (.int .u8 k) [entB 72 3600000000000 0, entB 77 60000000000 1, entB 83 1000000000 2, entB 109 1000000 3, entB 117 1000 4, entB 110 1 5] 0 = some (some (i, .int .i64 v))) :
    (Instr.lookup 88 (.map (some r)) (.int .u8 k) false).run Tryz.prog W = .ok (.int .i64 v) W :=
  run_look Tryz.underlying88 Tryz.underlying5 W r 6 _ (.int .u8 k) (.int .i64 v) i rfl hb hf

set_option maxHeartbeats 1000000 in
set_option maxRecDepth 100000 in
theorem untimeout_2S (w : World) :
    Calls Tryz.prog 19 #[.string ⟨#[50, 83]⟩] w fun e w' => e = .returned (.tuple #[.int .i64 2000, .nilIface]) ∧ Below w.heap.size w w' := by
  have htr : (Lib.trimS [50] [48, 49, 50, 51, 52, 53, 54, 55, 56, 57] : List UInt8) = [] := by decide
  have hT := fun W => Tryz.strings_Trim_laid ⟨#[50]⟩ ⟨#[48, 49, 50, 51, 52, 53, 54, 55, 56, 57]⟩ W (by decide) (by decide) (ascii_of_all (by decide))
  simp only [htr] at hT
  have HT := Lib.hid hT
  clear hT htr
  go_enter Tryz.func19, Tryz.ntmps19
  go_wp2_with fail
  refine (HT.out _).mono ?_
  rintro e w1 ⟨rfl, hb1⟩
  have HB1 := Lib.hid hb1
  clear hb1
  go_wp2_with fail
  have hix : ∀ W : World, (Instr.index 9 (.string ⟨#[50, 83]⟩) (.int .i64 1)).run Tryz.prog W = .ok (.int .u8 83) W := fun W => by kernel_rfl
  have hw1 : IntKind.i64.wrap 1 = 1 := by rfl
  go_region_held3 (fun _ => True) (trivial) (first
    | (go_simp; go_at_call 45; refine (units_any _).mono ?_; rintro e w2 ⟨rfl, hb2, hm2⟩; have hlk := look_units w1.heap.size 83 1000000000 w2 hm2 2 rfl)
    | fail)
  all_goals
    have HB2 := Lib.hid (HB1.out.trans (Below.mono (below_of_drew hb2) HB1.out.size))
    clear hb2 hm2 hlk hix hw1
    go_wp2_with fail
    refine (Tryz.strconv_Atoi ⟨#[50]⟩ 2 (by decide) (by decide) _).mono ?_
    rintro e w3 ⟨rfl, t, rfl⟩
    have HB3 := Lib.hid (HB2.out.trans ((Lib.bytesWorld_below w2 5 t).mono HB2.out.size))
    go_wp2
    go_ret2
    exact ⟨rfl, HB3.out⟩

set_option maxHeartbeats 1000000 in
set_option maxRecDepth 100000 in
theorem timeout_1e8 (w : World) (e1 e2 e3 e4 : Addr) (he : EnvG w e1 e2 e3 e4) :
    Calls Tryz.prog 20 #[.int .i64 100000000] w fun e w' => e = .returned (.string ⟨#[49, 48, 48, 48, 48, 48, 83]⟩) ∧ Below w.heap.size w w' := by
  have HE := Lib.hid he
  have hcv := fun (w : World) (C : Array Value) (n c : Nat) => Lib.run_convert_bytes_const (P := Tryz.prog) w 53 5 C n c Tryz.underlying53 Tryz.underlying5
  have hmx : max (100000000 : Int) 0 = 100000000 := by decide
  clear he
  go_enter Tryz.func20, Tryz.ntmps20
  go_wp2
  go_loopw [12] (fun i wr => ∃ k : Nat, k ≤ 1 ∧ i = .int .i64 k ∧ Hid (Below (w.heap.size + 1) (w.alloc (.cells #[.int .u8 109, .int .u8 83, .int .u8 77, .int .u8 72] 5 (4, 5))) wr)) (fun i _ => 4 - (intOf i).toNat)
  case atStart => exact ⟨0, by omega, rfl, Lib.hid (Below.refl _ _)⟩
  case round =>
    obtain ⟨k, hk, rfl, HB⟩ := hrel
    have hbk := fun k => (HB.out.cell (p := ⟨w.heap.size, k, none⟩) (Nat.lt_succ_self _)).trans (World.cell?_alloc_mark w _ _ _ k)
    have hBe : Below w.heap.size w wr := ((Below.refl _ _).alloc (Nat.le_refl _) _).trans (HB.out.mono (Nat.le_succ _))
    have HBE := Lib.hid hBe
    clear hBe hmx hcv
    by_cases h0 : k = 0
    · subst h0
      have hc := hbk 0
      simp only [List.getElem?_toArray, List.getElem?_cons_zero, List.getElem?_cons_succ] at hc
      clear hbk
      go_wp2_with fail
      refine (units_any _).mono ?_
      rintro e w2 ⟨rfl, hb2, hm2⟩
      have hlk := look_units wr.heap.size 109 1000000 w2 hm2 3 rfl
      have HB2 := Lib.hid (HB.out.trans (hb2.mono (by simpa using HB.out.size)))
      clear hb2 hm2
      go_wp2
      exact ⟨⟨1, by omega, rfl, HB2⟩, by simp [intOf]⟩
    · have hk1 : k = 1 := by omega
      subst hk1
      have hc := hbk 1
      simp only [List.getElem?_toArray, List.getElem?_cons_zero, List.getElem?_cons_succ] at hc
      clear hbk h0
      go_wp2_with fail
      refine (units_any _).mono ?_
      rintro e w2 ⟨rfl, hb2, hm2⟩
      have hlk := look_units wr.heap.size 83 1000000000 w2 hm2 2 rfl
      have HB2 := Lib.hid (HBE.out.trans (hb2.mono HBE.out.size))
      clear hb2 hm2
      have HE2 := Lib.hid (HE.out.below HB2.out HE.out.room)
      have hio : Lib.itoa 100000 = [49, 48, 48, 48, 48, 48] := by decide +kernel
      have hit := Tryz.strconv_Itoa 100000 (by decide) (by decide) w2 HE2.out.tab
      rw [hio] at hit
      have HIT := Lib.hid hit
      clear hio hit
      go_wp2_with fail
      refine HIT.out.mono ?_
      rintro e w3 ⟨rfl, kk, os, hw3⟩
      have HB3 : Hid (Below w.heap.size w w3) := Lib.hid (by rw [hw3]; exact HB2.out.trans (Lib.below_grow w.heap.size w2 HB2.out.size kk os))
      clear hw3 hlk
      have hE : ((⟨#[49, 48, 48, 48, 48, 48]⟩ : ByteArray) ++ Utf8.encode 83) = ⟨#[49, 48, 48, 48, 48, 48, 83]⟩ := by decide +kernel
      go_wp2
      go_ret
      exact ⟨rfl, HB3.out⟩
end Go.Proofs.YtoafmhbgbofgoaaGreatDoor.Gp
