/-
  Contracts: head.All, head.Length at the chapter's example.
-/
import Derived.Test.YtkikcinpgbgbdaaDoorOa
import Derived.Shelf.Strings.SlTrimAscii
namespace Go.Proofs.YtkikcinpgbgbdaaDoor
open Go.RowKit Go.Own Go.Own.Hd Go.Own.Fn Go.WideShapes
theorem trim_laid (s cutset : ByteArray) (w : World) (hs : s.size ≤ 9223372036854775807) (hcs : cutset.size < 4294967281) (hascii : ∀ (j : Nat) b, cutset.data.toList[j]? = some b → b.toNat < 128) :
    Calls Tryd.prog 28 #[.string s, .string cutset] w fun e w' => e = .returned (.string ⟨(Lib.trimS s.data.toList cutset.data.toList).toArray⟩) ∧ Below w.heap.size w w' := Any.strings_Trim_laid Tryd.lays160 (by kernel_rfl) s cutset w hs hcs hascii
def clS : ByteArray := ⟨#[99, 111, 110, 116, 101, 110, 116, 45, 108, 101, 110, 103, 116, 104]⟩
def o7S : ByteArray := ⟨#[48, 48, 55]⟩
theorem infoS : ∃ i, Tryd.prog.info? 9 = some i ∧ i.zero = some (.string ⟨#[]⟩) ∧ i.size = 1 ∧ i.bytes = 16 :=
  info_parts (show (Tryd.prog.info? 9).map (fun i => (i.zero, i.size, i.bytes)) = some (some (.string ⟨#[]⟩), 1, 16) by kernel_rfl)
/-- What head.All answers of the example. -/
def AllPost (w : World) (e : Ending) (w' : World) : Prop := ∃ g c, e = .returned (.slice (some ⟨g, 0, none⟩) 1 c) ∧ w'.cell? ⟨g, 0, none⟩ = some (.string o7S) ∧ Below w.heap.size w w'
set_option maxHeartbeats 2000000 in
set_option maxRecDepth 100000 in
theorem all_one (g : Nat) (w : World) (hb : Blk w g 26 #[.string clS, .string o7S, .bool false]) : Calls Tryd.prog 27 #[.slice (some ⟨g, 0, none⟩) 1 1, .string clS] w (AllPost w) := by
  have c0 : w.cell? ⟨g, 0, none⟩ = some (.string clS) := hb.cell 0
  have c1 : w.cell? ⟨g, 1, none⟩ = some (.string o7S) := hb.cell 1
  have c2 : w.cell? ⟨g, 2, none⟩ = some (.bool false) := hb.cell 2
  have hq : (clS.toList == clS.toList) = true := by simp
  obtain ⟨i0, hi, hz0, hz1, hz2⟩ := infoS
  have HI := Lib.hid (And.intro hi (And.intro hz0 (And.intro hz1 hz2)))
  clear hi hz0 hz1 hz2 hb
  obtain ⟨C, hC⟩ : ∃ C, clS = C := ⟨_, rfl⟩
  obtain ⟨O, hO⟩ : ∃ O, o7S = O := ⟨_, rfl⟩
  rw [hC] at c0 hq ⊢
  rw [hO] at c1
  have HO := Lib.hid hO
  clear hC hO
  go_enter Tryd.func27, Tryd.ntmps27
  go_wp2
  refine wp_loop_rounds 2 ?_
  rw [rounds_succ]
  go_wp2
  rw [rounds_succ]
  go_wp2
  have s2 : ((w.alloc (.cells #[.string C, .string O, .bool false] 26)).alloc (.cells #[.string O] 9)).heap.size = w.heap.size + 1 + 1 := by simp
  have hcell : ∀ zs : Array Value, ((((w.alloc (.cells #[.string C, .string O, .bool false] 26)).alloc (.cells #[.string O] 9)).alloc (.cells (#[.string O] ++ zs) 9)).drew).cell? ⟨w.heap.size + 1 + 1, 0, none⟩ = some (.string o7S) := fun zs => by
    have := ((Blk.new ((w.alloc (.cells #[.string C, .string O, .bool false] 26)).alloc (.cells #[.string O] 9)) 9 (#[.string O] ++ zs)).drewN 1).cell 0
    rw [s2] at this
    rw [HO.out]
    exact this.trans (by rw [Array.getElem?_append_left (by simp)]; rfl)
  have hbel : ∀ o : Obj, Below w.heap.size w (((w.alloc (.cells #[.string C, .string O, .bool false] 26)).alloc (.cells #[.string O] 9)).alloc o).drew := fun o => below_drewN ((((Below.refl _ _).alloc (Nat.le_refl _) _).alloc (by simp) _).alloc (by rw [s2]; omega) o) 1
  go_ret
  exact ⟨_, _, rfl, hcell _, hbel _⟩
def LenPost (w : World) (e : Ending) (w' : World) : Prop := e = .returned (.tuple #[.int .i64 7, .bool true, .nilIface]) ∧ Below w.heap.size w w'
set_option maxHeartbeats 2000000 in
set_option maxRecDepth 100000 in
theorem length_one (g : Nat) (w : World) (hb : Blk w g 26 #[.string clS, .string o7S, .bool false]) : Calls Tryd.prog 15 #[.slice (some ⟨g, 0, none⟩) 1 1] w (LenPost w) := by
  have HA := Lib.hid (show Calls Tryd.prog 27 #[.slice (some ⟨g, 0, none⟩) 1 1, .string ⟨#[99, 111, 110, 116, 101, 110, 116, 45, 108, 101, 110, 103, 116, 104]⟩] w (AllPost w) from all_one g w hb)
  have HT := Lib.hid (fun W => (show Calls Tryd.prog 28 #[.string o7S, .string ⟨#[48, 49, 50, 51, 52, 53, 54, 55, 56, 57]⟩] W fun e w' => e = .returned (.string ⟨#[]⟩) ∧ Below W.heap.size W w' from (trim_laid o7S ⟨#[48, 49, 50, 51, 52, 53, 54, 55, 56, 57]⟩ W (by decide) (by decide) (fun j b hb => by
    have hj := (List.getElem?_eq_some_iff.1 hb).1
    have hj : j < 10 := hj
    have : ∀ j < 10, ((⟨#[48, 49, 50, 51, 52, 53, 54, 55, 56, 57]⟩ : ByteArray).data.toList.getD j 0).toNat < 128 := by decide
    have h2 := this j hj
    rw [List.getD, hb] at h2
    exact h2)).mono fun e w' h => ⟨by rw [h.1, show Lib.trimS o7S.data.toList (⟨#[48, 49, 50, 51, 52, 53, 54, 55, 56, 57]⟩ : ByteArray).data.toList = [] by decide +kernel], h.2⟩))
  have HAt := Lib.hid (fun W => (Tryd.strconv_Atoi_ok o7S (by decide) 7 (by decide +kernel) W).mono fun e w' h => (show e = .returned (.tuple #[.int .i64 7, .nilIface]) ∧ Below W.heap.size W w' from ⟨h.1, by
    rcases h.2 with rfl | ⟨t, rfl⟩
    · exact Below.refl _ _
    · exact Lib.bytesWorld_below _ _ _⟩))
  have hq : (o7S.toList != o7S.toList) = false := by simp
  have hz : o7S.size = 3 := rfl
  have HQ := Lib.hid (And.intro hq hz)
  clear hq hz hb
  obtain ⟨O, hO⟩ : ∃ O, o7S = O := ⟨_, rfl⟩
  rw [hO] at HT HAt HQ
  have HO := Lib.hid hO
  clear hO
  go_enter Tryd.func15, Tryd.ntmps15
  go_wp2_with fail
  refine HA.out.mono ?_
  rintro e w1 ⟨g1, c1, rfl, hc1, hb1⟩
  rw [HO.out] at hc1
  have HB1 := Lib.hid hb1
  have hq := HQ.out.1
  have hz := HQ.out.2
  clear hb1
  go_wp2_with fail
  refine wp_loop_rounds 2 ?_
  rw [rounds_succ]
  go_wp2_with fail
  refine (HT.out _).mono ?_
  rintro e w2 ⟨rfl, hb2⟩
  have HB2 := Lib.hid (HB1.out.trans (hb2.mono HB1.out.size))
  have hc2 := (hb2.cell (World.block_lt_of_cell? w1 _ hc1)).trans hc1
  clear hb2
  go_wp2_with fail
  refine (HAt.out _).mono ?_
  rintro e w3 ⟨rfl, hb3⟩
  have HB3 := Lib.hid (HB2.out.trans (hb3.mono HB2.out.size))
  clear hb3
  go_wp2_with fail
  rw [rounds_succ]
  go_wp2
  go_ret3
  exact ⟨rfl, HB3.out⟩
end Go.Proofs.YtkikcinpgbgbdaaDoor
