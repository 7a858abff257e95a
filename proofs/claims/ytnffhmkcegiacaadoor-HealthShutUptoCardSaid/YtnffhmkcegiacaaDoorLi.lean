/-
  What a board is told, as data; light.
-/
import Derived.Test.YtnffhmkcegiacaaDoorFs
namespace Go.Own.Hl
open Go Go.RowKit Go.Own
structure DoV where
  k : Int
  n : Int
  s : ByteArray
/-- A slice of what is told, read as data. -/
def Ds (w : World) (A : Option Addr) (n : Nat) (l : List DoV) : Prop :=
  l.length = n ∧ ∀ (j : Nat) (x : DoV), l[j]? = some x → ∃ ad, A = some ad ∧ ad.block < w.heap.size ∧ w.cell? (ad.add (j * 3)) = some (.int .i64 x.k) ∧
    w.cell? ⟨(ad.add (j * 3)).block, (ad.add (j * 3)).off + 1, none⟩ = some (.int .i64 x.n) ∧ w.cell? ⟨(ad.add (j * 3)).block, (ad.add (j * 3)).off + 2, none⟩ = some (.string x.s)
def Dz (l : List DoV) : Prop := ∀ x ∈ l, x.s.size ≤ 1048576 ∧ (Lit.int .i64 x.n).wf = true
section
variable {w w' : World} {A : Option Addr} {n : Nat} {l : List DoV}
theorem Ds.below (h : Ds w A n l) {B : Nat} (hb : Below B w w') (hB : w.heap.size ≤ B) : Ds w' A n l := ⟨h.1, fun j x hx => by
  obtain ⟨ad, e, h1, h2, h3, h4⟩ := h.2 j x hx
  have hk : ∀ p : Addr, p.block = ad.block → w'.cell? p = w.cell? p := fun p hp => hb.cell (by omega)
  exact ⟨ad, e, Nat.lt_of_lt_of_le h1 hb.size, (hk _ (add_block _ _)).trans h2, (hk ⟨(ad.add (j * 3)).block, _, none⟩ (add_block ad _)).trans h3, (hk ⟨(ad.add (j * 3)).block, _, none⟩ (add_block ad _)).trans h4⟩⟩
theorem Ds.at_ (h : Ds w A n l) {j : Nat} (hj : j < n) : ∃ ad x, A = some ad ∧ x ∈ l ∧ w.cell? (ad.add (j * 3)) = some (.int .i64 x.k) ∧
    w.cell? ⟨(ad.add (j * 3)).block, (ad.add (j * 3)).off + 1, none⟩ = some (.int .i64 x.n) ∧ w.cell? ⟨(ad.add (j * 3)).block, (ad.add (j * 3)).off + 2, none⟩ = some (.string x.s) := by
  have hx : l[j]? = some (l[j]'(by rw [h.1]; exact hj)) := List.getElem?_eq_getElem _
  obtain ⟨ad, e, _, h2, h3, h4⟩ := h.2 j _ hx
  exact ⟨ad, _, e, List.getElem_mem _, h2, h3, h4⟩
end
end Go.Own.Hl
namespace Go.Proofs.YtnffhmkcegiacaaDoor
open Go.RowKit Go.Own Go.Own.Hl Go.Maps Go.Shelf Go.MuLone
attribute [local go_sem] Oper.semAt_some
def LightPost (n : Nat) (w : World) (e : Ending) (w' : World) : Prop := ∃ b, e = .returned (.bool b) ∧ (b = true → n ≤ 200) ∧ w = w'
set_option maxHeartbeats 4000000 in
set_option maxRecDepth 100000 in
theorem light_any (A : Option Addr) (n c : Nat) (l : List DoV) (w : World) (hn : n ≤ 100000000) (hd : Ds w A n l) (hz : Dz l) : Calls Tryd.prog 5 #[.slice A n c] w (LightPost n w) := by
  have HD := Lib.hid hd
  have HZ := Lib.hid hz
  clear hd hz
  go_enter Tryd.func5, Tryd.ntmps5
  go_wp2_with fail
  go_loop [3, 4] (fun s i => ∃ k : Nat, k ≤ n ∧ k ≤ 201 ∧ i = .int .i64 (k : Int) ∧ (∃ t : Nat, t ≤ k * 20000 ∧ s = .int .i64 (t : Int))) (fun _ i => n - (intOf i).toNat)
  case atStart => exact ⟨0, Nat.zero_le _, by omega, rfl, ⟨0, by omega, rfl⟩⟩
  case round =>
    obtain ⟨k, hk, hk2, rfl, ⟨t, ht, rfl⟩⟩ := hrel
    by_cases hlt : k < n
    · by_cases h60 : k ≤ 200
      · obtain ⟨ad, x, rfl, hx, a0, a1, a2⟩ := HD.out.at_ hlt
        obtain ⟨s1, _⟩ := HZ.out x hx
        obtain ⟨xk, xn, xs⟩ := x
        simp only at a0 a1 a2 s1
        clear hx a0 a1
        have i0 : (0 : Int) ≤ (k : Int) := by omega
        have i1 : (k : Int) < (n : Int) := by omega
        have t0 : (t : Int) ≤ 5000000 := by omega
        go_wp2
        exact ⟨⟨k + 1, by omega, by omega, by go_num, ⟨t + min xs.size 20000, by omega, congrArg (Value.int .i64) (by omega)⟩⟩, by simp [intOf]; omega⟩
      · have h60' : 200 < k := by omega
        have hn6 : 200 < n := by omega
        go_wp2
        go_ret
        exact ⟨false, rfl, (fun h => Bool.noConfusion h), rfl⟩
    · obtain rfl : k = n := by omega
      by_cases hn60 : k ≤ 200
      · by_cases h3 : t ≤ 20000
        · have h3d : decide ((t : Int) ≤ 20000) = true := decide_eq_true (by omega)
          go_wp2
          go_ret
          exact ⟨true, rfl, fun _ => hn60, rfl⟩
        · have h3d : decide ((t : Int) ≤ 20000) = false := decide_eq_false (by omega)
          go_wp2
          go_ret
          exact ⟨false, rfl, (fun h => Bool.noConfusion h), rfl⟩
      · have hn6 : 200 < k := by omega
        go_wp2
        go_ret
        exact ⟨false, rfl, (fun h => Bool.noConfusion h), rfl⟩
end Go.Proofs.YtnffhmkcegiacaaDoor
