/-
  From what a row lists of package-level variables to what the walk reads; a list of things that came in, not too bulky.
-/
import Derived.Test.YtnffhmkcegiacaaDoorLs
import Derived.Test.YtnffhmkcegiacaaDoorHs
import Derived.Deep.Slices
import Derived.Deep.Fields
import Derived.ChangeSame
import Derived.ProofKit
import Derived.OpenShut
import Derived.Lib.SmallJoins
import Derived.Stop.Joined
import Derived.Deep.DeepHandedRow
namespace Go.Own
open Go.ChangeShapes Go.WideShapes Go.Deep
section
variable {H : Type} {enc : TypeId × Value → H} {P : Program} {w : World} {base : Nat} {spare : Nat → Bool} {held : Bool}
theorem open_slice_fields {t e : TypeId} {fs : Array Field} {fuel : Nat} {cs : List Value} {x : DataW H × List MemPlace} (ht : P.underlying t = some (.slice e)) (he : P.underlying e = some (.struct fs))
    (hone : oneCellFields P fs = true) (hC : P.cellsOf e = fs.size) (h : DataW.trod enc P w base spare held fuel t cs = some x) :
    (cs = [.slice none 0 0] ∧ x = (.nil, [])) ∨
    ∃ (a : Addr) (len cap m : Nat) (D : Nat → DataW H) (Pl : Nat → List MemPlace), cs = [.slice (some a) len cap] ∧ base ≤ a.block ∧ len ≤ cap ∧ cap ≤ maxLen ∧ m = (if spare a.block then cap else len) ∧
      x = (.slice ((List.range len).map D) ((List.range (m - len)).map fun j => D (len + j)), MemPlace.row a (m * fs.size) ++ (List.range m).flatMap Pl) ∧
      ∀ i, i < m → ∃ (ys : List (DataW H × List MemPlace)) (n : Nat), D i = .agg (ys.map (·.1)) ∧ Pl i = ys.flatMap (·.2) ∧ ys.length = fs.size ∧
        ∀ (j : Nat) (f : Field), fs[j]? = some f → ∃ (v : Value) (y : DataW H × List MemPlace), w.cell? (a.add (i * fs.size + j)) = some v ∧ ys[j]? = some y ∧ DataW.trod enc P w base spare held n f.type [v] = some y := by
  rcases open_slice ht h with h0 | ⟨a, len, cap, m, n, D, Pl, hcs, hb, hl, hm, hmm, hx, hi⟩
  · exact .inl h0
  · refine .inr ⟨a, len, cap, m, D, Pl, hcs, hb, hl, hm, hmm, by rw [hC] at hx; exact hx, fun i him => ?_⟩
    obtain ⟨cs', hc, ht'⟩ := hi i him
    rw [hC] at hc
    obtain ⟨ys, n', hn', hy, hlen, hyl, hf⟩ := DataW.trod_struct he ht'
    obtain ⟨_, hcl, hat⟩ := World.cells?_some hc
    simp only [Prod.mk.injEq] at hy
    refine ⟨ys, n', hy.1, hy.2, hyl, fun j f hj => ?_⟩
    obtain ⟨ho, hk⟩ := hone_of hone j f hj
    have hjl : j < fs.size := (Array.getElem?_eq_some_iff.1 hj).1
    have hcell := hat j hjl
    have hv : cs'[j]? = some (cs'[j]'(by omega)) := List.getElem?_eq_getElem (by omega)
    have h1 := hf j f hj
    rw [ho, hk] at h1
    have hone' : (cs'.drop j).take 1 = [cs'[j]'(by omega)] := by
      rw [List.drop_eq_getElem_cons (by omega)]
      rfl
    rw [hone'] at h1
    have hys : ys[j]? = some (ys[j]'(by omega)) := List.getElem?_eq_getElem (by omega)
    refine ⟨_, _, ?_, hys, h1.trans hys⟩
    rw [← Go.Deep.add_add, hcell, hv]
end
end Go.Own
namespace Go.Proofs.YtnffhmkcegiacaaDoor
open Go.RowKit Go.Own Go.Own.Hl Go.ChangeShapes Go.WideShapes
theorem addr_plus (a : Addr) (q i : Nat) (hi : 1 ≤ i) : (⟨(a.add q).block, (a.add q).off + i, none⟩ : Addr) = a.add (q + i) := by
  rw [← add_two]
  show _ = Addr.add _ _
  conv => rhs; unfold Addr.add
  rw [if_neg (by omega)]
  rfl
theorem envH_of {W : World} {l : List (String × DataW Unit)} (h : laidMet Tryd.prog l W)
    (h1 : ("parley/api.ErrGone", Rows.laid_parley_api_ErrGone) ∈ l) (h2 : ("parley/api.ErrMany", Rows.laid_parley_api_ErrMany) ∈ l) (h3 : ("parley/api.ErrNumber", Rows.laid_parley_api_ErrNumber) ∈ l)
    (h4 : ("parley/api.ErrName", Rows.laid_parley_api_ErrName) ∈ l) (h5 : ("parley/api.ErrStatus", Rows.laid_parley_api_ErrStatus) ∈ l) : ∃ ea, EnvH W ea := by
  obtain ⟨a1, c1⟩ := sent (g := 0) h h1 (by kernel_rfl) (by kernel_rfl)
  obtain ⟨a2, c2⟩ := sent (g := 2) h h2 (by kernel_rfl) (by kernel_rfl)
  obtain ⟨a3, c3⟩ := sent (g := 3) h h3 (by kernel_rfl) (by kernel_rfl)
  obtain ⟨a4, c4⟩ := sent (g := 1) h h4 (by kernel_rfl) (by kernel_rfl)
  obtain ⟨a5, c5⟩ := sent (g := 4) h h5 (by kernel_rfl) (by kernel_rfl)
  exact ⟨fun i => match i with | 0 => a1 | 1 => a2 | 2 => a3 | 3 => a4 | _ => a5, c1, c2, c3, c4, c5, by
    have q1 := World.block_lt_of_cell? W _ c1
    have q2 := World.block_lt_of_cell? W _ c2
    have q3 := World.block_lt_of_cell? W _ c3
    have q4 := World.block_lt_of_cell? W _ c4
    have q5 := World.block_lt_of_cell? W _ c5
    simp only at q1 q2 q3 q4 q5
    omega⟩
/-! ### Bulk -/
theorem bulk_part {H : Type} {d : DataW H} : ∀ {l : List (DataW H)}, d ∈ l → Rows.uptoBulk d ≤ Rows.uptoBulkAll l
  | x :: r, h => by
    simp only [Rows.uptoBulkAll]
    rcases List.mem_cons.1 h with rfl | h
    · omega
    · have := bulk_part h; omega
theorem bulk_pos {H : Type} (d : DataW H) : 1 ≤ Rows.uptoBulk d := by
  cases d with
  | lit l => cases l <;> simp [Rows.uptoBulk]
  | _ => simp [Rows.uptoBulk]
theorem bulk_len {H : Type} : ∀ l : List (DataW H), l.length ≤ Rows.uptoBulkAll l
  | [] => Nat.zero_le _
  | x :: r => by
    have := bulk_pos x
    have := bulk_len r
    simp only [Rows.uptoBulkAll, List.length_cons]; omega
theorem bulk_cond {H : Type} {s : ChangeSpec} {l : List (DataW H)} (h : ∀ k, (Rows.OpenSpec.upto s).cond = some k → k H l = true) : Rows.uptoBulkAll l ≤ 1048576 := by
  have := h Rows.uptoSmall rfl
  exact of_decide_eq_true this
variable {H : Type} {enc : TypeId × Value → H} {w : World} {base : Nat} {spare : Nat → Bool} {held : Bool}
/-- A slice of what is told that came in. -/
theorem dos_of_trod {a : Option Addr} {len cap : Nat} {d : DataW H} {p : List MemPlace} (h : DataW.Trod enc Tryd.prog w base spare held 22 (.slice a len cap) d p) (hb : Rows.uptoBulk d ≤ 1048576) :
    ∃ l, Ds w a len l ∧ Dz l ∧ len ≤ 1048576 := by
  obtain ⟨fuel, hf⟩ := h
  rcases open_slice_fields Tryd.underlying22 Tryd.underlying31 (by kernel_rfl) (by kernel_rfl) hf with ⟨hcs, _⟩ | ⟨x, l, c, m, D, Pl, hcs, _, hl, hm, hmm, hd, hx⟩
  · simp [Value.cells] at hcs
    obtain ⟨rfl, rfl, rfl⟩ := hcs
    exact ⟨[], ⟨rfl, fun j u hu => by simp at hu⟩, (fun h hh => nomatch hh), by omega⟩
  · simp [Value.cells] at hcs
    obtain ⟨rfl, rfl, rfl⟩ := hcs
    have hle : len ≤ m := by rw [hmm]; split <;> omega
    simp only [Prod.mk.injEq] at hd
    obtain ⟨rfl, _⟩ := hd
    simp only [Rows.uptoBulk] at hb
    have hlen : len ≤ 1048576 := by
      have := bulk_len ((List.range len).map D)
      simp at this
      omega
    have each : ∀ i, i < len → ∃ o : DoV, (w.cell? (x.add (i * 3)) = some (.int .i64 o.k) ∧ w.cell? ⟨(x.add (i * 3)).block, (x.add (i * 3)).off + 1, none⟩ = some (.int .i64 o.n) ∧ w.cell? ⟨(x.add (i * 3)).block, (x.add (i * 3)).off + 2, none⟩ = some (.string o.s)) ∧ o.s.size ≤ 1048576 ∧ (Lit.int .i64 o.n).wf = true := by
      intro i hi
      obtain ⟨ys, n, hD, _, hyl, hfi⟩ := hx i (by omega)
      obtain ⟨v0, y0, hc0, hy0, ht0⟩ := hfi 0 _ rfl
      obtain ⟨v1, y1, hc1, hy1, ht1⟩ := hfi 1 _ rfl
      obtain ⟨v2, y2, hc2, hy2, ht2⟩ := hfi 2 _ rfl
      obtain ⟨n0, e0, rfl, w0⟩ := DataW.trod_int Tryd.underlying3 ht0
      obtain ⟨n1, e1, rfl, w1⟩ := DataW.trod_int Tryd.underlying3 ht1
      obtain ⟨s2, e2, rfl, _⟩ := DataW.trod_string Tryd.underlying9 ht2
      simp at e0 e1 e2
      subst e0 e1 e2
      have hDb : Rows.uptoBulk (D i) ≤ 1048576 := by
        have := bulk_part (d := D i) (l := (List.range len).map D) (List.mem_map.2 ⟨i, by simpa using hi, rfl⟩)
        omega
      rw [hD] at hDb
      simp only [Rows.uptoBulk] at hDb
      have q2 := bulk_part (d := .lit (.string s2.data.toList)) (l := ys.map (·.1)) (List.mem_map.2 ⟨_, List.mem_of_getElem? hy2, rfl⟩)
      simp only [Rows.uptoBulk] at q2
      exact ⟨⟨n0, n1, s2⟩, ⟨by simpa using hc0, by rw [addr_plus x (i * 3) 1 (by omega)]; exact hc1, by rw [addr_plus x (i * 3) 2 (by omega)]; exact hc2⟩, by show s2.size ≤ _; rw [Lib.size_eq]; omega, w1⟩
    have : Inhabited DoV := ⟨⟨0, 0, ⟨#[]⟩⟩⟩
    obtain ⟨O, hO⟩ := Go.Deep.choose_lt (α := DoV) each
    refine ⟨(List.range len).map O, ⟨by simp, fun j u hu => ?_⟩, fun h hh => ?_, hlen⟩
    · have hj := (List.getElem?_eq_some_iff.1 hu).1
      simp at hj
      rw [List.getElem?_map, List.getElem?_range hj] at hu
      cases hu
      obtain ⟨⟨c0, c1, c2⟩, _⟩ := hO j hj
      have hblk := World.block_lt_of_cell? w _ c0
      rw [add_block] at hblk
      exact ⟨x, rfl, hblk, c0, c1, c2⟩
    · obtain ⟨i, hi, rfl⟩ := List.mem_map.1 hh
      exact (hO i (by simpa using hi)).2
end Go.Proofs.YtnffhmkcegiacaaDoor
