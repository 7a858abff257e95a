/-
  Contracts: parleyref.SameHeader, SameHeaders of lists that are the same; ChainOrder's function.
-/
import Derived.Test.YthokfopeddaiiaaGreatDoorApp
import Derived.Deep.RegionWith
namespace Go.Proofs.YthokfopeddaiiaaGreatDoor
open Go.RowKit Go.Own Go.Own.Fn Go.Shelf
attribute [local go_sem] Oper.semAt_some
set_option maxRecDepth 100000 in
theorem sameHeader_yes (a : HdrV) (w : World) : Calls Tryz.prog 41 #[.agg #[.string a.name, .string a.value, .bool a.never], .agg #[.string a.name, .string a.value, .bool a.never]] w fun e w' => e = .returned (.bool true) ∧ Below w.heap.size w w' := by
  obtain ⟨n, v, b⟩ := a
  simp only
  go_enter Tryz.func41, Tryz.ntmps41
  go_wp2
  go_ret
  exact ⟨rfl, ((Below.refl _ _).alloc (Nat.le_refl _) _).alloc (by simp) _⟩
theorem Hr.at_ {w : World} {A : Option Addr} {n k : Nat} {l : List HdrV} (h : Hr w A n l) (hk : k < n) : ∃ ad, A = some ad ∧ w.cell? (ad.add (k * 3)) = some (.string (l.getD k ⟨⟨#[]⟩, ⟨#[]⟩, false⟩).name) ∧ w.cell? ⟨(ad.add (k * 3)).block, (ad.add (k * 3)).off + 1, none⟩ = some (.string (l.getD k ⟨⟨#[]⟩, ⟨#[]⟩, false⟩).value) ∧
    w.cell? ⟨(ad.add (k * 3)).block, (ad.add (k * 3)).off + 2, none⟩ = some (.bool (l.getD k ⟨⟨#[]⟩, ⟨#[]⟩, false⟩).never) := by
  have hl := h.1
  have hc := hcells_at l k (by omega)
  have e : l.getD k ⟨⟨#[]⟩, ⟨#[]⟩, false⟩ = l[k]'(by omega) := by simp [List.getD, show k < l.length by omega]
  rw [e]
  obtain ⟨ad, e0, _, h0⟩ := h.2 _ _ hc.1
  obtain ⟨ad1, e1, _, h1⟩ := h.2 _ _ hc.2.1
  obtain ⟨ad2, e2, _, h2⟩ := h.2 _ _ hc.2.2
  obtain rfl := Option.some.inj (e0.symm.trans e1)
  obtain rfl := Option.some.inj (e0.symm.trans e2)
  rw [← add_two] at h1 h2
  exact ⟨ad, e0, h0, h1, h2⟩
set_option maxHeartbeats 1000000 in
set_option maxRecDepth 100000 in
theorem sameHeaders_yes (A A2 : Option Addr) (n c c2 : Nat) (l : List HdrV) (w : World) (hn : n ≤ 1000000000) (h1 : Hr w A n l) (h2 : Hr w A2 n l) :
    Calls Tryz.prog 17 #[.slice A n c, .slice A2 n c2] w fun e w' => e = .returned (.bool true) ∧ Below w.heap.size w w' := by
  have H1 := Lib.hid h1
  have H2 := Lib.hid h2
  clear h1 h2
  go_enter Tryz.func17, Tryz.ntmps17
  go_wp2
  go_loopw [5] (fun i wr => ∃ k : Nat, k ≤ n ∧ i = .int .i64 (k : Int) ∧ Hid (Below w.heap.size w wr)) (fun i _ => n - (intOf i).toNat)
  case atStart => exact ⟨0, by omega, rfl, Lib.hid (Below.refl _ _)⟩
  case round =>
    obtain ⟨k, hk, rfl, hb⟩ := hrel
    by_cases hlt : k < n
    · obtain ⟨ad, rfl, a0, a1, a2⟩ := (H1.out.below hb.out).at_ hlt
      obtain ⟨ad2, rfl, b0, b1, b2⟩ := (H2.out.below hb.out).at_ hlt
      obtain ⟨x, hx⟩ : ∃ x, l.getD k ⟨⟨#[]⟩, ⟨#[]⟩, false⟩ = x := ⟨_, rfl⟩
      rw [hx] at a0 a1 a2 b0 b1 b2
      obtain ⟨xn, xv, xb⟩ := x
      simp only at a0 a1 a2 b0 b1 b2
      clear hx
      have i0 : (0 : Int) ≤ (k : Int) := by omega
      have i1 : (k : Int) < (n : Int) := by omega
      have HS := Lib.hid fun W => sameHeader_yes ⟨xn, xv, xb⟩ W
      go_wp2_with fail
      go_region_with ((refine (HS.out _).mono ?_; rintro e w2 ⟨rfl, g1⟩; have HB := Lib.hid (hb.out.trans (Below.mono (B := wr.heap.size) (by exact ⟨g1.os, g1.tape, g1.output, g1.size, g1.block⟩) hb.out.size)); clear g1))
      all_goals
        go_wp2_with fail
        go_roundw
        case rel => exact ⟨k + 1, hlt, by go_num, HB⟩
        case measure => simp [intOf]; omega
    · obtain rfl : k = n := by omega
      go_wp2
      go_ret
      exact ⟨rfl, hb.out⟩
theorem res18 (tmps : Array Value) (w : World) (g : Nat) (a b c d : Value) (ht : tmps[2]? = some (.pointer (some ⟨g, 0, none⟩))) (hb : Blk w g 39 #[a, b, c, d]) :
    (results Tryz.f18 tmps).run Tryz.prog w = .ok (.agg #[a, b, c, d]) w := by
  have c0 : w.cell? ⟨g, 0, none⟩ = some a := hb.cell 0
  have c1 : w.cell? ⟨g, 1, none⟩ = some b := hb.cell 1
  have c2 : w.cell? ⟨g, 2, none⟩ = some c := hb.cell 2
  have c3 : w.cell? ⟨g, 3, none⟩ = some d := hb.cell 3
  simp [results, Tryz.results18, go_sem, ht, c0, c1, c2, c3]
/-- It answers the call's headers. -/
def backF (x : CallV) (s : Unit) : AnsV × Unit := (⟨0, ⟨#[]⟩, x.hs, []⟩, s)
end Go.Proofs.YthokfopeddaiiaaGreatDoor
