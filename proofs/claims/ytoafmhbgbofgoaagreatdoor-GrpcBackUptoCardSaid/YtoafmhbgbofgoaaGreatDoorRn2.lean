/-
  strings.NewReplacer of four texts.
-/
import Derived.Test.YtoafmhbgbofgoaaGreatDoorRq
namespace Go.Proofs.YtoafmhbgbofgoaaGreatDoor
open Go.RowKit Go.Own
theorem infoStr : (Tryz.prog.info? 9).map (fun i => (i.zero, i.size, i.bytes)) = some (some (.string ⟨#[]⟩), 1, 16) := by kernel_rfl
def txt4 : List Value := [.string ⟨#[45]⟩, .string ⟨#[43]⟩, .string ⟨#[95]⟩, .string ⟨#[47]⟩]
theorem row_some {w : World} {base n : Nat} {e : TypeId} {v : Value} {xs : List Value} (h : w.ownsRow base e 1 v n xs) (h0 : 0 < n) : ∃ g cap, v = .slice (some ⟨g, 0, none⟩) n cap ∧ base ≤ g ∧ g < w.heap.size ∧ ∀ j, j < n → w.cell? ⟨g, j, none⟩ = xs[j]? := by
  rcases h.2 with ⟨_, h1⟩ | ⟨g, cap, cur, rfl, hb, hk, _⟩
  · omega
  · exact ⟨g, cap, rfl, hb, (Array.getElem?_eq_some_iff.1 hk).1, fun j hj => World.ownsRow.cellAt h j (by omega)⟩
def NewRPost (w : World) (e : Ending) (w' : World) : Prop := ∃ rb g cap, e = .returned (.pointer (some ⟨rb, 0, none⟩)) ∧ w.heap.size ≤ rb ∧ Rpl w' rb g cap ∧ Below w.heap.size w w'
set_option maxHeartbeats 4000000 in
set_option maxRecDepth 100000 in
theorem newReplacer_any (g0 : Nat) (w : World) (hs : Sc4 w g0) : Calls Tryz.prog 82 #[.slice (some ⟨g0, 0, none⟩) 4 4] w (NewRPost w) := by
  obtain ⟨i0, hi, hz0, hz1, hz2⟩ := info_parts infoStr
  have HC := Lib.hid (show ∀ (j : Nat) (u : Value), txt4[j]? = some u → w.cell? ((⟨g0, 0, none⟩ : Addr).add j) = some u from fun j u hu => by
    obtain ⟨h0, h1, h2, h3, _⟩ := hs
    have hj : j < 4 := (List.getElem?_eq_some_iff.1 hu).1
    have hj4 : j = 0 ∨ j = 1 ∨ j = 2 ∨ j = 3 := by omega
    rcases hj4 with rfl | rfl | rfl | rfl <;> (cases hu; assumption))
  clear hs
  go_enter Tryz.func82, Tryz.ntmps82
  go_wp2_with (at_builtin; refine wpList_append_own _ rfl _ _ 136 rfl w.heap.size 9 i0 (.string ⟨#[]⟩) 1 16 Tryz.underlying136 hi hz0 hz1 hz2 rfl (by decide) _ _ _ rfl (World.ownsRow_nil _ _ _ _) ⟨g0, 0, none⟩ 4 4 txt4 rfl rfl HC.out (by simp [txt4, Value.oneCell']) (by decide) (by decide) (Nat.le_refl _) ?_; intro v' w3 hown' hg3 hnil3; clear hnil3; obtain ⟨g1, cap1, rfl, hg1, hlt1, hcs⟩ := row_some hown' (by decide); have HG3 := Lib.hid (show World.grownBy w w3 none from hg3); have HCS := Lib.hid hcs; clear hg3 hcs hown')
  go_ret
  have hS : Sc4 w3 g1 := ⟨HCS.out 0 (by decide), HCS.out 1 (by decide), HCS.out 2 (by decide), HCS.out 3 (by decide), hlt1⟩
  have hb := (Below.refl w.heap.size w).grown HG3.out (Nat.le_refl _) (by simp)
  exact ⟨w3.heap.size, g1, cap1, rfl, hb.size, ⟨Blk.new w3 _ _, hS.below ((Below.refl _ _).alloc (Nat.le_refl _) _), by omega⟩, hb.alloc hb.size _⟩
end Go.Proofs.YtoafmhbgbofgoaaGreatDoor
