/-
  strings.NewReplacer and Replace, at texts that have nothing to be replaced.
-/
import Derived.Test.YtoafmhbgbofgoaaGreatDoorRp
import Derived.Deep.RegionWith
import Derived.Maps.AppendAt
import Derived.Sort.EncStr
import Derived.OwnWalk
import Derived.WalkSpells
namespace Go.Proofs.YtoafmhbgbofgoaaGreatDoor
open Go.RowKit Go.Own Go.Own.B64
/-- What was built. -/
def RBuilt (w : World) (rb : Nat) (W : World) (r o : Value) : Prop := ∃ pb, r = .iface 186 (.pointer (some ⟨pb, 0, none⟩)) ∧ w.heap.size ≤ pb ∧ Tb W pb tabF ∧ o = .slice none 0 0 ∧ w.grownBy W (some rb)
set_option maxHeartbeats 4000000 in
set_option maxRecDepth 100000 in
theorem buildOnce_any (rb g cap : Nat) (w : World) (hB : Blk w rb 151 (onceCells 0 1 .nilIface (.slice (some ⟨g, 0, none⟩) 4 cap))) (hS : Sc4 w g) :
    Calls Tryz.prog 104 #[.pointer (some ⟨rb, 0, none⟩)] w (Did rb (RBuilt w rb)) := by
  have HC := Lib.hid (rbuild_any rb g cap 1 w hB hS)
  have HB := Lib.hid hB
  have hl := hB.lt
  clear hB hS
  go_enter Tryz.func104, Tryz.ntmps104
  go_wp2_with fail
  refine HC.out.mono ?_
  rintro e w1 ⟨pb, rfl, hpb, ht, hb⟩
  have hB1 := HB.out.below hb hl
  have HB1 := Lib.hid hB1
  have c3 := hB1.cell 3
  have f3 := hB1.frozen 3
  have c4 := hB1.cell 4
  have f4 := hB1.frozen 4
  simp only [onceCells, List.getElem?_toArray, List.getElem?_cons_zero, List.getElem?_cons_succ] at c3 c4
  have HT := Lib.hid ht
  have HW := Lib.hid hb
  clear ht hb hB1
  go_wp2_with fail
  go_end0
  refine ⟨rfl, _, _, (HB1.out.put 3 _).put 4 _, pb, rfl, hpb, (HT.out.grown (row := some rb) (grown_setCell (grown_of_below (Below.refl _ _) _) 3 _) (fun e => by have := Option.some.inj e; omega)).grown (row := some rb) (grown_setCell (grown_of_below (Below.refl _ _) _) 4 _) (fun e => by have := Option.some.inj e; omega), rfl, ?_⟩
  exact grown_setCell (grown_setCell (grown_of_below HW.out _) 3 _) 4 _
set_option maxHeartbeats 4000000 in
set_option maxRecDepth 100000 in
/-- byteReplacer.Replace, where no byte is replaced. -/
theorem byteReplace_any (pb : Nat) (s : ByteArray) (w : World) (hT : Tb w pb tabF) (hs : s.size ≤ 1000000000) (hl : ∀ c ∈ s.data.toList, c ≠ 45 ∧ c ≠ 95) :
    Calls Tryz.prog 188 #[.pointer (some ⟨pb, 0, none⟩), .string s] w fun e w' => e = .returned (.string s) ∧ w = w' := by
  have HT := Lib.hid hT
  have HL := Lib.hid hl
  have q0 : ∀ (w : World) (a : Option Addr) (n c n' c' : Nat), (binOp .eql 53 (.slice a n c) (.slice none n' c')).run Tryz.prog w = .ok (.bool a.isNone) w := fun w a n c n' c' => Lib.run_eql_slice_nil w _ _ a n c n' c' Tryz.underlying53
  clear hT hl
  go_enter Tryz.func188, Tryz.ntmps188
  go_wp2_with fail
  go_loop [5, 6] (fun b i => ∃ k : Nat, k ≤ s.size ∧ i = .int .i64 (k : Int) ∧ b = .slice none 0 0) (fun _ i => s.size - (intOf i).toNat)
  case atStart => exact ⟨0, Nat.zero_le _, rfl, rfl⟩
  case round =>
    obtain ⟨k, hk, rfl, rfl⟩ := hrel
    by_cases hlt : k < s.size
    · have hi0 := idx_str (P := Tryz.prog) Tryz.underlying9 s k (k : Int) rfl hlt
      obtain ⟨c, hc⟩ : ∃ c, s.data.toList.getD k 0 = c := ⟨_, rfl⟩
      rw [hc] at hi0
      have hm : c ∈ s.data.toList := by
        have h2 : k < s.data.toList.length := by rw [← Lib.size_eq]; exact hlt
        rw [← hc, List.getD, List.getElem?_eq_getElem h2]
        exact List.getElem_mem h2
      obtain ⟨h1, h2⟩ := HL.out c hm
      have h1' : c.toNat ≠ 45 := fun e => h1 (UInt8.toNat_inj.1 e)
      have h2' : c.toNat ≠ 95 := fun e => h2 (UInt8.toNat_inj.1 e)
      have hx := c.toNat_lt
      obtain ⟨x, hxx⟩ : ∃ x, c.toNat = x := ⟨_, rfl⟩
      rw [hxx] at hi0 h1' h2' hx
      have ct := HT.out.cell hx
      have e : tabF x = (x : Int) := by unfold tabF; rw [if_neg h1', if_neg h2']
      rw [e] at ct
      clear hc hm h1 h2 h1' h2' hxx e
      go_wp2_with fail
      go_round
      case rel => exact ⟨k + 1, by omega, by go_num, rfl⟩
      case measure => simp [intOf]; omega
    · go_wp2_with fail
      go_ret
      exact ⟨rfl, rfl⟩
theorem nil_ahead (a : Addr) (w : World) : (nilAhead 351 186 (.pointer (some a)) "Replace").run Tryz.prog w = .ok (some false) w := by kernel_rfl
theorem method_rep (a : Addr) (w : World) : (method 351 186 (.pointer (some a)) "Replace").run Tryz.prog w = .ok (188, .pointer (some a)) w := by kernel_rfl
/-- A replacer that was not yet used. -/
structure Rpl (w : World) (rb g cap : Nat) : Prop where
  blk : Blk w rb 151 (onceCells 0 0 .nilIface (.slice (some ⟨g, 0, none⟩) 4 cap))
  txt : Sc4 w g
  ne : g ≠ rb
def RepPost (s : ByteArray) (w : World) (rb : Nat) (e : Ending) (w' : World) : Prop := e = .returned (.string s) ∧ w.grownBy w' (some rb)
set_option maxHeartbeats 4000000 in
set_option maxRecDepth 100000 in
theorem replace_any (rb g cap : Nat) (s : ByteArray) (w : World) (h : Rpl w rb g cap) (hs : s.size ≤ 1000000000) (hl : ∀ c ∈ s.data.toList, c ≠ 45 ∧ c ≠ 95) :
    Calls Tryz.prog 83 #[.pointer (some ⟨rb, 0, none⟩), .string s] w (RepPost s w rb) := by
  have hS1 : Sc4 (w.setCell ⟨rb, 1, none⟩ (.int .i32 1)) g := by
    obtain ⟨h0, h1, h2, h3, h4⟩ := h.txt
    have hk : ∀ i, (w.setCell ⟨rb, 1, none⟩ (.int .i32 1)).cell? ⟨g, i, none⟩ = w.cell? ⟨g, i, none⟩ := fun i => World.cell?_of_block (Below.heap_setCell w ⟨rb, 1, none⟩ _ g h.ne)
    exact ⟨(hk 0).trans h0, (hk 1).trans h1, (hk 2).trans h2, (hk 3).trans h3, by
      have := ((Below.refl 0 w).setCell (p := ⟨rb, 1, none⟩) (Nat.zero_le _) (.int .i32 1)).size
      omega⟩
  have hD := do_any rb .nilIface (.slice (some ⟨g, 0, none⟩) 4 cap) (RBuilt (w.setCell ⟨rb, 1, none⟩ (.int .i32 1)) rb) w h.blk (buildOnce_any rb g cap _ (h.blk.put 1 _) hS1)
  have HD := Lib.hid hD
  have HN := Lib.hid (And.intro hs hl)
  have hna := fun (a : Addr) (w : World) => nil_ahead a w
  have hme := fun (a : Addr) (w : World) => method_rep a w
  clear hD h hS1 hs hl
  go_enter Tryz.func83, Tryz.ntmps83
  go_wp2_with fail
  refine HD.out.mono ?_
  rintro e w1 ⟨rfl, W, r1, o1, hb, ⟨pb, rfl, hpb, ht, rfl, hg⟩, rfl⟩
  have hne : some pb ≠ some rb := fun e => by
    have h1 := Option.some.inj e
    obtain ⟨cs, hc, hs, hi⟩ := ht
    subst h1
    unfold Blk at hc hb
    rw [hb] at hc
    injection hc with hc
    injection hc with _ h2 _
    cases h2
  have hb2 : Blk ((W.drew.setCell ⟨rb, 0, none⟩ (.int .u32 1)).setCell ⟨rb, 1, none⟩ (.int .i32 0)) rb 151 (onceCells 1 0 (.iface 186 (.pointer (some ⟨pb, 0, none⟩))) (.slice none 0 0)) := (Blk.put (w := W.drew) hb 0 _).put 1 _
  have hgr : w.grownBy ((W.drew.setCell ⟨rb, 0, none⟩ (.int .u32 1)).setCell ⟨rb, 1, none⟩ (.int .i32 0)) (some rb) := by
    have h1 : w.grownBy W (some rb) := grown_trans (grown_setCell (grown_of_below (Below.refl _ _) _) 1 _) hg
    exact grown_setCell (grown_setCell (w := W.drew) (grown_drewN h1 1) 0 _) 1 _
  have ht2 : Tb ((W.drew.setCell ⟨rb, 0, none⟩ (.int .u32 1)).setCell ⟨rb, 1, none⟩ (.int .i32 0)) pb tabF := by
    have h1 : Tb W.drew pb tabF := ht
    exact (h1.grown (row := some rb) (grown_setCell (grown_of_below (Below.refl _ _) _) 0 _) hne).grown (row := some rb) (grown_setCell (grown_of_below (Below.refl _ _) _) 1 _) hne
  have c3 := hb2.cell 3
  simp only [onceCells, List.getElem?_toArray, List.getElem?_cons_zero, List.getElem?_cons_succ] at c3
  have HT := Lib.hid ht2
  have HG := Lib.hid hgr
  clear hb hg ht hb2 hgr ht2 hne hpb
  generalize World.setCell _ _ _ = w2 at c3 HT HG ⊢
  go_wp2_with (go_at_call 188; refine (byteReplace_any pb s _ HT.out HN.out.1 HN.out.2).mono ?_; rintro e w' ⟨rfl, rfl⟩)
  go_ret
  exact ⟨rfl, HG.out⟩
end Go.Proofs.YtoafmhbgbofgoaaGreatDoor
