/-
  Bytes of one's own that begin in the midst of a block: cut, appended to. No program.
-/
import Derived.Test.YtoafmhbgbofgoaaGreatDoorBase
import Derived.ArgAppend
import Derived.Deep.MidRow
import Derived.Deep.Upon
import Derived.Lib.EndianMore
namespace Go.Own
open Go.RowKit

/-- A slice of bytes in memory of one's own, from whatever place in its block on. -/
def Om (w : World) (base : Nat) (v : Value) (n : Nat) (l : List UInt8) : Prop :=
  l.length = n ∧ ((v = .slice none 0 0 ∧ n = 0) ∨
    ∃ g off cap, v = .slice (some ⟨g, off, none⟩) n cap ∧ base ≤ g ∧ g < w.heap.size ∧ n ≤ cap ∧ cap ≤ maxLen ∧ (∀ j, j < cap → (w.cell? ⟨g, off + j, none⟩).isSome = true ∧ w.frozen? ⟨g, off + j, none⟩ = false) ∧
      ∀ j, j < n → w.cell? ⟨g, off + j, none⟩ = some (bv (l.getD j 0)))

section
variable {w w' : World} {base n c : Nat} {v : Value} {l : List UInt8} {e : TypeId}
theorem Om.len (h : Om w base v n l) : l.length = n := h.1
theorem Om.nil (w : World) (base : Nat) : Om w base (.slice none 0 0) 0 [] := ⟨rfl, .inl ⟨rfl, rfl⟩⟩
theorem Om.of_ow (h : Ow w base e v n l) : Om w base v n l := by
  obtain ⟨hl, h⟩ := h
  have hl' : l.length = n := by simpa using hl
  refine ⟨hl', ?_⟩
  rcases h with h | ⟨g, cap, cur, hv, hb, hh, h1, h2, h3, h4⟩
  · exact .inl h
  · have hbk : Blk w g e cur := hh
    refine .inr ⟨g, 0, cap, hv, hb, hbk.lt, h1, h2, fun j hj => ⟨?_, ?_⟩, fun j hj => ?_⟩
    · rw [hbk.cell]; simp at h3 ⊢; omega
    · exact hbk.frozen _
    · rw [hbk.cell, Nat.zero_add]
      have hj2 : j < (List.map bv l).length := by simp; omega
      have e : cur.toList[j]? = (List.map bv l)[j]? := by rw [← h4, List.getElem?_take, if_pos (by omega)]
      rw [← Array.getElem?_toList, e, List.getElem?_eq_getElem hj2, List.getElem_map]
      simp [List.getD, show j < l.length by omega]
theorem Om.form (h : Om w base v n l) : ∃ A cap, v = .slice A n cap ∧ n ≤ cap ∧ Rd w w.heap.size A n l := by
  obtain ⟨hl, h⟩ := h
  rcases h with ⟨rfl, rfl⟩ | ⟨g, off, cap, rfl, hb, hg, h1, h2, h3, h4⟩
  · exact ⟨none, 0, rfl, Nat.le_refl _, hl, fun h => absurd h (Nat.lt_irrefl _)⟩
  · exact ⟨_, cap, rfl, h1, hl, fun _ => ⟨_, rfl, hg, fun j hj => by rw [Addr.add_lit]; exact h4 j hj⟩⟩
theorem Om.rd {A : Option Addr} (h : Om w base (.slice A n c) n l) : Rd w w.heap.size A n l := by
  obtain ⟨A', cap, hv, _, hr⟩ := h.form
  injection hv with hv _ _
  subst hv
  exact hr
theorem Om.cap {A : Option Addr} (h : Om w base (.slice A n c) n l) : n ≤ c := by
  obtain ⟨A', cap, hv, hc, _⟩ := h.form
  injection hv with _ _ hv
  omega
theorem Om.grown {row : Option Nat} (h : Om w base v n l) (hg : w.grownBy w' row) (hne : v.ownBlock = none ∨ v.ownBlock ≠ row) : Om w' base v n l := by
  obtain ⟨hl, h⟩ := h
  refine ⟨hl, ?_⟩
  rcases h with h | ⟨g, off, cap, rfl, hb, hgs, h1, h2, h3, h4⟩
  · exact .inl h
  · have hn : some g ≠ row := by
      rcases hne with h | h
      · cases h
      · exact h
    have hblk : w'.heap[g]? = w.heap[g]? := hg.block g hgs hn
    have hc : ∀ o, w'.cell? ⟨g, o, none⟩ = w.cell? ⟨g, o, none⟩ := fun o => by unfold World.cell?; simp only [hblk]
    have hf : ∀ o, w'.frozen? ⟨g, o, none⟩ = w.frozen? ⟨g, o, none⟩ := fun o => by unfold World.frozen?; simp only [hblk]
    exact .inr ⟨g, off, cap, rfl, hb, Nat.lt_of_lt_of_le hgs hg.size, h1, h2, fun j hj => by rw [hc, hf]; exact h3 j hj, fun j hj => by rw [hc]; exact h4 j hj⟩
theorem Om.below {B : Nat} (h : Om w base v n l) (hb : Below B w w') (hv : ∀ g, v.ownBlock = some g → g < B) : Om w' base v n l := by
  obtain ⟨hl, h⟩ := h
  refine ⟨hl, ?_⟩
  rcases h with h | ⟨g, off, cap, rfl, hbg, hgs, h1, h2, h3, h4⟩
  · exact .inl h
  · have hgB : g < B := hv g rfl
    refine .inr ⟨g, off, cap, rfl, hbg, Nat.lt_of_lt_of_le hgs hb.size, h1, h2, fun j hj => ?_, fun j hj => ?_⟩
    · rw [hb.cell (p := ⟨g, off + j, none⟩) hgB, hb.frozen (p := ⟨g, off + j, none⟩) hgB]; exact h3 j hj
    · rw [hb.cell (p := ⟨g, off + j, none⟩) hgB]; exact h4 j hj
theorem Om.lt (h : Om w base v n l) {g : Nat} (hv : v.ownBlock = some g) : g < w.heap.size ∧ base ≤ g := by
  obtain ⟨hl, h⟩ := h
  rcases h with ⟨rfl, _⟩ | ⟨g', off, cap, rfl, hbg, hgs, _⟩
  · cases hv
  · injection hv with hv
    have hv' : g' = g := hv
    subst hv'
    exact ⟨hgs, hbg⟩
theorem Om.drewN (h : Om w base v n l) (k : Nat) : Om (w.drewN k) base v n l := h
theorem Om.alloc (h : Om w base v n l) (o : Obj) : Om (w.alloc o) base v n l := h.below ((Below.refl _ _).alloc (Nat.le_refl _) o) fun g hg => (h.lt hg).1
theorem Om.lower {base' : Nat} (h : Om w base v n l) (hb : base' ≤ base) : Om w base' v n l := by
  obtain ⟨hl, h⟩ := h
  refine ⟨hl, ?_⟩
  rcases h with h | ⟨g, off, cap, hv, hbg, r⟩
  · exact .inl h
  · exact .inr ⟨g, off, cap, hv, Nat.le_trans hb hbg, r⟩
/-- s[k:] -/
theorem Om.cut {A : Option Addr} {k : Nat} (h : Om w base (.slice A n c) n l) (hk : k ≤ n) : Om w base (.slice (if c = k then A else A.map (·.add k)) (n - k) (c - k)) (n - k) (l.drop k) := by
  have hnc := h.cap
  obtain ⟨hl, h⟩ := h
  refine ⟨by rw [List.length_drop, hl], ?_⟩
  rcases h with ⟨hv, rfl⟩ | ⟨g, off, cap, hv, hbg, hgs, h1, h2, h3, h4⟩
  · injection hv with hv _ hc
    subst hv hc
    obtain rfl : k = 0 := by omega
    exact .inl ⟨rfl, rfl⟩
  · injection hv with hv _ hc
    subst hv hc
    by_cases e : c = k
    · rw [if_pos e]
      exact .inr ⟨g, off, c - k, rfl, hbg, hgs, by omega, by omega, fun j hj => by omega, fun j hj => by omega⟩
    · rw [if_neg e]
      refine .inr ⟨g, off + k, c - k, by rw [Option.map_some, Addr.add_lit], hbg, hgs, by omega, by omega, fun j hj => ?_, fun j hj => ?_⟩
      · have := h3 (k + j) (by omega)
        rw [show off + k + j = off + (k + j) by omega]; exact this
      · have := h4 (k + j) (by omega)
        rw [show off + k + j = off + (k + j) by omega, this]
        simp [List.getD, List.getElem?_drop]
end

section
variable {P : Program} {t e : TypeId} (hP : ByteP P t e) {w : World}
include hP
/-- append(v, x...), whatever room there is. -/
theorem run_app_mid (ty : TypeId) (base : Nat) (v : Value) (n : Nat) (l : List UInt8) (h : Om w base v n l) (hb : base ≤ w.heap.size) (A : Option Addr) (m c B : Nat) (ys : List UInt8) (hr : Rd w B A m ys) (hnm : n + m ≤ 100000000000000) :
    ∃ v' w', (Builtin.append_ #[t, t] ty #[v, .slice A m c]).run P w = .ok v' w' ∧ Om w' base v' (n + m) (l ++ ys) ∧ w.grownBy w' v.ownBlock ∧ (v'.ownBlock = v.ownBlock ∨ ∃ g, v'.ownBlock = some g ∧ w.heap.size ≤ g) := by
  obtain ⟨i, hi, hz, h1, h2⟩ := hP.info
  have hl := h.len
  rcases h.2 with ⟨rfl, rfl⟩ | ⟨g, off, cap, rfl, hbg, hgs, hn, hcm, hin, hat⟩
  · obtain rfl : l = [] := List.eq_nil_of_length_eq_zero hl
    obtain ⟨v', w', hrun, r1, r2, r3⟩ := run_app_any (P := P) w hP ty base (.slice none 0 0) 0 [] ⟨rfl, .inl ⟨rfl, rfl⟩⟩ B A m c ys hr (by omega) hb
    refine ⟨v', w', hrun, Om.of_ow r1, r2, ?_⟩
    rcases r3 with r3 | r3
    · exact .inl r3
    · exact .inr ⟨_, r3, Nat.le_refl _⟩
  rcases A with _ | ad
  · obtain ⟨rfl, rfl⟩ := hr.none_zero
    refine ⟨.slice (some ⟨g, off, none⟩) n cap, w, ?_, by simpa using h, World.grownBy.refl w _, .inl rfl⟩
    simp [Builtin.append_, run_underlying hP.slice, sizeOf, typeInfo, hi, Builtin.lenOf, Builtin.firstCells, hn, storeCells]
  by_cases hroom : n + m ≤ cap
  · have hys : ys.length = m := hr.1
    have hyl : (ys.map bv).length = m := by simpa using hys
    have hrun := run_append_room_cells (P := P) w t ty e i hP.slice hi g off n cap ad m c (ys.map bv) (by rw [h1]; simpa using hys) hr.cells bv_one hroom
      (fun j hj => by rw [h1, Nat.mul_one, Nat.add_assoc]; exact (hin (n + j) (by omega)).1) (fun j hj => by rw [h1, Nat.mul_one, Nat.add_assoc]; exact (hin (n + j) (by omega)).2)
    rw [h1, Nat.mul_one] at hrun
    have hgr : w.grownBy (w.setCells g (off + n) (ys.map bv)) (some g) := by
      have hb0 : Below g w (w.setCells g (off + n) (ys.map bv)) := Lib.below_setCells_w (Nat.le_refl _) _ _ _
      refine ⟨hb0.os, hb0.tape, hb0.output, hb0.size, fun k hk hne => ?_⟩
      exact World.heap_setCells_other w g (off + n) (ys.map bv) hk (fun e => hne (by rw [e]))
    refine ⟨_, _, hrun, ⟨by rw [List.length_append]; omega, .inr ⟨g, off, cap, rfl, hbg, Nat.lt_of_lt_of_le hgs hgr.size, hroom, hcm, fun j hj => ⟨?_, ?_⟩, fun j hj => ?_⟩⟩, hgr, .inl rfl⟩
    · exact World.isSome_setCells g _ _ _ _ (hin j hj).1
    · rw [World.frozen?_setCells]; exact (hin j hj).2
    · by_cases hjn : j < n
      · rw [World.cell?_setCells_out g _ _ _ _ (fun _ _ => .inl (by simp; omega)), hat j hjn]
        simp [List.getD, List.getElem?_append, show j < l.length by omega]
      · have hjm : j - n < (ys.map bv).length := by omega
        have := World.cell?_setCells_in g (ys.map bv) (off + n) w (fun k hk => by rw [Nat.add_assoc]; exact (hin (n + k) (by omega)).1) (j - n) hjm
        rw [show off + n + (j - n) = off + j by omega] at this
        rw [this, List.getElem_map]
        simp [List.getD, List.getElem?_append, hjn, hl, show j - n < ys.length by omega]
  · have hold : ∀ j u, (l.map bv)[j]? = some u → w.cell? ((⟨g, off, none⟩ : Addr).add j) = some u := by
      intro j u hu
      have hj : j < l.length := by
        rcases Nat.lt_or_ge j l.length with h | h
        · exact h
        · rw [List.getElem?_eq_none (by simpa using h)] at hu; cases hu
      rw [Addr.add_lit, hat j (by omega), ← hu]
      simp [List.getD, hj]
    obtain ⟨v', w', hrun, r1, r2⟩ := run_append_arg_grows (P := P) w t ty e i (.int .u8 0) 1 1 hP.slice hi hz h1 h2 rfl (by omega) ⟨g, off, none⟩ n cap (l.map bv) (by simpa using hl) hold ad m c (ys.map bv) (by simpa using hr.1) hr.cells (by omega) (by simp only [maxLen]; omega) (by omega)
    have ho : Ow w' w.heap.size e v' (n + m) (l ++ ys) := by unfold Ow; rw [List.map_append]; exact r1
    refine ⟨v', w', hrun, (Om.of_ow ho).lower hb, ⟨r2.os, r2.tape, r2.output, r2.size, fun k hk _ => r2.block k hk (by simp)⟩, ?_⟩
    rcases hv : v'.ownBlock with _ | g'
    · rcases ho.2 with ⟨rfl, hz⟩ | ⟨g'', cap'', _, rfl, _⟩
      · omega
      · cases hv
    · exact .inr ⟨g', rfl, (ho.lt hv).2⟩
end
end Go.Own
