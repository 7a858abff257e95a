/-
  From what the row lists of package-level variables to what the walks read; calls and statuses that came in by value, not too bulky.
-/
import Derived.Test.YtoafmhbgbofgoaaGreatDoorLs
import Derived.Test.YtoafmhbgbofgoaaGreatDoorOq
import Derived.Deep.Slices
import Derived.Deep.Fields
import Derived.ChangeSame
import Derived.ProofKit
import Derived.OpenShut
import Derived.Lib.SmallJoins
import Derived.Lib.LaidTab
import Derived.Stop.Joined
import Derived.Deep.DeepHandedRow
namespace Go.Own
open Go.ChangeShapes Go.WideShapes Go.Deep
section
variable {H : Type} {enc : TypeId × Value → H} {P : Program} {w : World} {base : Nat} {spare : Nat → Bool} {held : Bool}
theorem open_slice_fields {t e : TypeId} {fs : Array Field} {fuel : Nat} {cs : List Value} {x : DataW H × List MemPlace} (ht : P.underlying t = some (.slice e)) (he : P.underlying e = some (.struct fs))
    (hone : oneCellFields P fs = true) (hC : P.cellsOf e = fs.size) (h : DataW.trod enc P w base spare held fuel t cs = some x) :
    (cs = [.slice none 0 0] ∧ x = (.nil, [])) ∨
    ∃ (a : Addr) (len cap m : Nat) (D : Nat → DataW H) (Pl : Nat → List MemPlace), cs = [.slice (some a) len cap] ∧ base ≤ a.block ∧ len ≤ cap ∧ cap ≤ maxLen ∧ m = (if spare a.block then cap else len) ∧
      x = (.slice ((List.range len).map D) ((List.range (m - len)).map fun j => D (len + j)), MemPlace.row a (m * fs.size) ++ (List.range m).flatMap Pl) ∧
      ∀ i, i < m → ∃ (ys : List (DataW H × List MemPlace)) (n : Nat), D i = .agg (ys.map (·.1)) ∧ Pl i = ys.flatMap (·.2) ∧ ys.length = fs.size ∧
        ∀ (j : Nat) (f : Field), fs[j]? = some f → ∃ (v : Value) (y : DataW H × List MemPlace), w.cell? (a.add (i * fs.size + j)) = some v ∧ ys[j]? = some y ∧ DataW.trod enc P w base spare held n f.type [v] = some y := by
  rcases open_slice ht h with h0 | ⟨a, len, cap, m, n, D, Pl, hcs, hb, hl, hm, hmm, hx, hi⟩
  · exact .inl h0
  · refine .inr ⟨a, len, cap, m, D, Pl, hcs, hb, hl, hm, hmm, by rw [hC] at hx; exact hx, fun i him => ?_⟩
    obtain ⟨cs', hc, ht'⟩ := hi i him
    rw [hC] at hc
    obtain ⟨ys, n', hn', hy, hlen, hyl, hf⟩ := DataW.trod_struct he ht'
    obtain ⟨_, hcl, hat⟩ := World.cells?_some hc
    simp only [Prod.mk.injEq] at hy
    refine ⟨ys, n', hy.1, hy.2, hyl, fun j f hj => ?_⟩
    obtain ⟨ho, hk⟩ := hone_of hone j f hj
    have hjl : j < fs.size := (Array.getElem?_eq_some_iff.1 hj).1
    have hcell := hat j hjl
    have hv : cs'[j]? = some (cs'[j]'(by omega)) := List.getElem?_eq_getElem (by omega)
    have h1 := hf j f hj
    rw [ho, hk] at h1
    have hone' : (cs'.drop j).take 1 = [cs'[j]'(by omega)] := by
      rw [List.drop_eq_getElem_cons (by omega)]
      rfl
    rw [hone'] at h1
    have hys : ys[j]? = some (ys[j]'(by omega)) := List.getElem?_eq_getElem (by omega)
    refine ⟨_, _, ?_, hys, h1.trans hys⟩
    rw [← Go.Deep.add_add, hcell, hv]
end
end Go.Own
namespace Go.Proofs.YtoafmhbgbofgoaaGreatDoor
open Go.RowKit Go.Own Go.Own.Hd Go.ChangeShapes Go.WideShapes
theorem tab_eq : (Rows.laid_internal_strconv_uint64pow10 : DataW Unit) = Lib.tabData .u64 Lib.pow10Tab := by kernel_rfl
theorem envH_of {W : World} {l : List (String × DataW Unit)} (h : laidMet Tryz.prog l W) (hsh : W.ShapedOpen Tryz.prog)
    (h1 : ("parley/api.ErrHead", Rows.laid_parley_api_ErrHead) ∈ l) (h2 : ("strconv.ErrSyntax", Rows.laid_strconv_ErrSyntax) ∈ l) (h3 : ("strconv.ErrRange", Rows.laid_strconv_ErrRange) ∈ l)
    (h6 : ("internal/strconv.uint64pow10", Rows.laid_internal_strconv_uint64pow10) ∈ l) (h7 : ("math/bits.deBruijn64tab", Rows.laid_math_bits_deBruijn64tab) ∈ l) : ∃ e1 e2 e3, EnvH W e1 e2 e3 := by
  obtain ⟨a1, c1⟩ := sent (g := 4) h h1 (by kernel_rfl) (by kernel_rfl)
  obtain ⟨a2, c2⟩ := sent (g := 6) h h2 (by kernel_rfl) (by kernel_rfl)
  obtain ⟨a3, c3⟩ := sent (g := 7) h h3 (by kernel_rfl) (by kernel_rfl)
  obtain ⟨m, cm⟩ := Go.Proofs.cell_of_shapedOpen_int (P := Tryz.prog) (g := 8) (zero := #[.int .i64 0]) (t := 3) hsh (of_decide_eq_true (by kernel_rfl)) (by kernel_rfl) rfl (by kernel_rfl) (by kernel_rfl) Tryz.underlying3
  have r2 := Lib.laidMet.reads h h6
  rw [tab_eq] at r2
  obtain ⟨g, t, cs, fuel, p, hg, hty, hvar, hd⟩ := r2
  obtain rfl := Option.some.inj ((show Tryz.prog.globalNamed "internal/strconv.uint64pow10" = some 9 by kernel_rfl).symm.trans hg)
  obtain rfl := Option.some.inj ((show (Tryz.prog.globals[9]?).map (·.type) = some 168 by kernel_rfl).symm.trans hty)
  have hcs := Lib.cells_of_tab Tryz.underlying168 Tryz.underlying93 (by kernel_rfl) (by kernel_rfl) hd
  refine ⟨a1, a2, a3, c1, c2, c3, ⟨m, cm⟩, ?_, ?_⟩
  · unfold Lib.TabIs
    rw [hvar, ← hcs]
  · obtain ⟨g, t, cs, fuel, p, hg, hty, hvar, hd⟩ := Lib.laidMet.reads h h7
    obtain rfl := Option.some.inj ((show Tryz.prog.globalNamed "math/bits.deBruijn64tab" = some 13 by kernel_rfl).symm.trans hg)
    unfold World.var? at hvar
    rw [hg] at hvar
    simp only [Option.bind_some] at hvar
    rcases hh : W.heap[13]? with _ | o
    · rw [hh] at hvar; cases hvar
    · have hlt := (Array.getElem?_eq_some_iff.1 hh).1
      omega
theorem envG_of {W : World} {l : List (String × DataW Unit)} (h : laidMet Tryz.prog l W) (hsh : W.ShapedOpen Tryz.prog)
    (h1 : ("parley/api.ErrGone", Rows.laid_parley_api_ErrGone) ∈ l) (h2 : ("parley/api.ErrFrame", Rows.laid_parley_api_ErrFrame) ∈ l) (h3 : ("parley/api.ErrLong", Rows.laid_parley_api_ErrLong) ∈ l) (h4 : ("parley/api.ErrValue", Rows.laid_parley_api_ErrValue) ∈ l)
    (h5 : ("strconv.ErrSyntax", Rows.laid_strconv_ErrSyntax) ∈ l) (h6 : ("internal/strconv.uint64pow10", Rows.laid_internal_strconv_uint64pow10) ∈ l) (h7 : ("math/bits.deBruijn64tab", Rows.laid_math_bits_deBruijn64tab) ∈ l) : ∃ e1 e2 e3 e4, Gp.EnvG W e1 e2 e3 e4 := by
  obtain ⟨a1, c1⟩ := sent (g := 1) h h1 (by kernel_rfl) (by kernel_rfl)
  obtain ⟨a2, c2⟩ := sent (g := 5) h h2 (by kernel_rfl) (by kernel_rfl)
  obtain ⟨a3, c3⟩ := sent (g := 0) h h3 (by kernel_rfl) (by kernel_rfl)
  obtain ⟨a4, c4⟩ := sent (g := 2) h h4 (by kernel_rfl) (by kernel_rfl)
  obtain ⟨a5, c5⟩ := sent (g := 6) h h5 (by kernel_rfl) (by kernel_rfl)
  obtain ⟨m, cm⟩ := Go.Proofs.cell_of_shapedOpen_int (P := Tryz.prog) (g := 8) (zero := #[.int .i64 0]) (t := 3) hsh (of_decide_eq_true (by kernel_rfl)) (by kernel_rfl) rfl (by kernel_rfl) (by kernel_rfl) Tryz.underlying3
  have r2 := Lib.laidMet.reads h h6
  rw [tab_eq] at r2
  obtain ⟨g, t, cs, fuel, p, hg, hty, hvar, hd⟩ := r2
  obtain rfl := Option.some.inj ((show Tryz.prog.globalNamed "internal/strconv.uint64pow10" = some 9 by kernel_rfl).symm.trans hg)
  obtain rfl := Option.some.inj ((show (Tryz.prog.globals[9]?).map (·.type) = some 168 by kernel_rfl).symm.trans hty)
  have hcs := Lib.cells_of_tab Tryz.underlying168 Tryz.underlying93 (by kernel_rfl) (by kernel_rfl) hd
  refine ⟨a1, a2, a3, a4, c1, c2, c3, c4, ⟨_, _, c5⟩, ⟨m, cm⟩, ?_, ?_⟩
  · unfold Lib.TabIs
    rw [hvar, ← hcs]
  · obtain ⟨g, t, cs, fuel, p, hg, hty, hvar, hd⟩ := Lib.laidMet.reads h h7
    obtain rfl := Option.some.inj ((show Tryz.prog.globalNamed "math/bits.deBruijn64tab" = some 13 by kernel_rfl).symm.trans hg)
    unfold World.var? at hvar
    rw [hg] at hvar
    simp only [Option.bind_some] at hvar
    rcases hh : W.heap[13]? with _ | o
    · rw [hh] at hvar; cases hvar
    · have hlt := (Array.getElem?_eq_some_iff.1 hh).1
      omega
/-! ### Bulk -/
theorem bulk_part {H : Type} {d : DataW H} : ∀ {l : List (DataW H)}, d ∈ l → Rows.uptoBulk d ≤ Rows.uptoBulkAll l
  | x :: r, h => by
    simp only [Rows.uptoBulkAll]
    rcases List.mem_cons.1 h with rfl | h
    · omega
    · have := bulk_part h; omega
theorem bulk_pos {H : Type} (d : DataW H) : 1 ≤ Rows.uptoBulk d := by
  cases d with
  | lit l => cases l <;> simp [Rows.uptoBulk]
  | _ => simp [Rows.uptoBulk]
theorem bulk_len {H : Type} : ∀ l : List (DataW H), l.length ≤ Rows.uptoBulkAll l
  | [] => Nat.zero_le _
  | x :: r => by
    have := bulk_pos x
    have := bulk_len r
    simp only [Rows.uptoBulkAll, List.length_cons]; omega
theorem bulk_cond {H : Type} {s : ChangeSpec} {l : List (DataW H)} (h : ∀ k, (Rows.OpenSpec.upto s).cond = some k → k H l = true) : Rows.uptoBulkAll l ≤ 1048576 := by
  have := h Rows.uptoSmall rfl
  exact of_decide_eq_true this
variable {H : Type} {enc : TypeId × Value → H} {w : World} {base : Nat} {spare : Nat → Bool} {held : Bool}
set_option maxRecDepth 100000 in
/-- A header by value that came in. -/
theorem hdr_of_trod {r : Reach} {b0 : Nat} {v : Value} {d : DataW H} {p : List MemPlace} (hv : Value.okWide Tryz.prog w r b0 67 v) (h : DataW.Trod enc Tryz.prog w base spare held 67 v d p) (hb : Rows.uptoBulk d ≤ 1048576) :
    ∃ x : HdrV, v = .agg #[.string x.name, .string x.value, .bool x.never] ∧ x.name.size ≤ 1048576 ∧ x.value.size ≤ 1048576 := by
  obtain ⟨v0, v1, v2, y0, y1, y2, n, rfl, rfl, rfl, h0, h1, h2⟩ := Joins.open_agg3 Tryz.underlying67 (by kernel_rfl) (by kernel_rfl) hv h
  obtain ⟨s0, e0, rfl, _⟩ := DataW.trod_string Tryz.underlying9 h0
  obtain ⟨s1, e1, rfl, _⟩ := DataW.trod_string Tryz.underlying9 h1
  obtain ⟨b2, e2, rfl⟩ := DataW.trod_bool Tryz.underlying4 h2
  simp at e0 e1 e2
  subst e0 e1 e2
  simp only [Rows.uptoBulk, Rows.uptoBulkAll] at hb
  exact ⟨⟨s0, s1, b2⟩, rfl, by show s0.size ≤ _; rw [Lib.size_eq]; omega, by show s1.size ≤ _; rw [Lib.size_eq]; omega⟩
/-- A slice of headers that came in. -/
theorem hdrs_of_trod {a : Option Addr} {len cap : Nat} {d : DataW H} {p : List MemPlace} (h : DataW.Trod enc Tryz.prog w base spare held 22 (.slice a len cap) d p) (hb : Rows.uptoBulk d ≤ 1048576) :
    ∃ l, Hr w a len l ∧ len ≤ cap ∧ Szs l ∧ len ≤ 1048576 := by
  obtain ⟨fuel, hf⟩ := h
  rcases open_slice_fields Tryz.underlying22 Tryz.underlying67 (by kernel_rfl) (by kernel_rfl) hf with ⟨hcs, _⟩ | ⟨x, l, c, m, D, Pl, hcs, _, hl, hm, hmm, hd, hx⟩
  · simp [Value.cells] at hcs
    obtain ⟨rfl, rfl, rfl⟩ := hcs
    exact ⟨[], ⟨rfl, fun j u hu => by simp [hcells] at hu⟩, Nat.le_refl _, (fun h hh => nomatch hh), by omega⟩
  · simp [Value.cells] at hcs
    obtain ⟨rfl, rfl, rfl⟩ := hcs
    have hle : len ≤ m := by rw [hmm]; split <;> omega
    simp only [Prod.mk.injEq] at hd
    obtain ⟨rfl, _⟩ := hd
    simp only [Rows.uptoBulk] at hb
    have hlen : len ≤ 1048576 := by
      have := bulk_len ((List.range len).map D)
      simp at this
      omega
    have each : ∀ i, i < len → ∃ o : HdrV, (w.cell? (x.add (i * 3)) = some (.string o.name) ∧ w.cell? (x.add (i * 3 + 1)) = some (.string o.value) ∧ w.cell? (x.add (i * 3 + 2)) = some (.bool o.never)) ∧ o.name.size ≤ 1048576 ∧ o.value.size ≤ 1048576 := by
      intro i hi
      obtain ⟨ys, n, hD, _, hyl, hfi⟩ := hx i (by omega)
      obtain ⟨v0, y0, hc0, hy0, ht0⟩ := hfi 0 _ rfl
      obtain ⟨v1, y1, hc1, hy1, ht1⟩ := hfi 1 _ rfl
      obtain ⟨v2, y2, hc2, _, ht2⟩ := hfi 2 _ rfl
      obtain ⟨s0, e0, rfl, _⟩ := DataW.trod_string Tryz.underlying9 ht0
      obtain ⟨s1, e1, rfl, _⟩ := DataW.trod_string Tryz.underlying9 ht1
      obtain ⟨b2, e2, rfl⟩ := DataW.trod_bool Tryz.underlying4 ht2
      simp at e0 e1 e2
      subst e0 e1 e2
      have hDb : Rows.uptoBulk (D i) ≤ 1048576 := by
        have := bulk_part (d := D i) (l := (List.range len).map D) (List.mem_map.2 ⟨i, by simpa using hi, rfl⟩)
        omega
      rw [hD] at hDb
      simp only [Rows.uptoBulk] at hDb
      have q0 := bulk_part (d := .lit (.string s0.data.toList)) (l := ys.map (·.1)) (List.mem_map.2 ⟨_, List.mem_of_getElem? hy0, rfl⟩)
      have q1 := bulk_part (d := .lit (.string s1.data.toList)) (l := ys.map (·.1)) (List.mem_map.2 ⟨_, List.mem_of_getElem? hy1, rfl⟩)
      simp only [Rows.uptoBulk] at q0 q1
      exact ⟨⟨s0, s1, b2⟩, ⟨by simpa using hc0, hc1, hc2⟩, by show s0.size ≤ _; rw [Lib.size_eq]; omega, by show s1.size ≤ _; rw [Lib.size_eq]; omega⟩
    have : Inhabited HdrV := ⟨⟨⟨#[]⟩, ⟨#[]⟩, false⟩⟩
    obtain ⟨O, hO⟩ := Go.Deep.choose_lt (α := HdrV) each
    refine ⟨(List.range len).map O, ⟨by simp, fun j u hu => ?_⟩, hl, fun h hh => ?_, hlen⟩
    · have hj := (List.getElem?_eq_some_iff.1 hu).1
      rw [hcells_len] at hj
      simp at hj
      have hk : j / 3 < len := by omega
      have hat := hcells_at ((List.range len).map O) (j / 3) (by simpa using hk)
      simp only [List.getElem_map, List.getElem_range] at hat
      obtain ⟨⟨c0, c1, c2⟩, _⟩ := hO (j / 3) hk
      have hblk := World.block_lt_of_cell? w _ c0
      rw [add_block] at hblk
      refine ⟨x, rfl, hblk, ?_⟩
      have h3 : j = j / 3 * 3 ∨ j = j / 3 * 3 + 1 ∨ j = j / 3 * 3 + 2 := by omega
      rcases h3 with e | e | e
      · rw [e] at hu ⊢; rw [hat.1] at hu; cases hu; exact c0
      · rw [e] at hu ⊢; rw [hat.2.1] at hu; cases hu; exact c1
      · rw [e] at hu ⊢; rw [hat.2.2] at hu; cases hu; exact c2
    · obtain ⟨i, hi, rfl⟩ := List.mem_map.1 hh
      have := (hO i (by simpa using hi)).2
      omega
end Go.Proofs.YtoafmhbgbofgoaaGreatDoor
namespace Go.Own
open Go.ChangeShapes Go.WideShapes Go.Deep
section
variable {H : Type} {enc : TypeId × Value → H} {P : Program} {w : World} {base : Nat} {spare : Nat → Bool} {held : Bool}
/-- A struct by value whose fields are of one cell. -/
theorem open_agg_fields {r : Reach} {b0 : Nat} {t : TypeId} {fs : Array Field} {v : Value} {d : DataW H} {p : List MemPlace} (hs : P.underlying t = some (.struct fs)) (hone : oneCellFields P fs = true) (hC : P.cellsOf t = fs.size)
    (hv : Value.okWide P w r b0 t v) (h : DataW.Trod enc P w base spare held t v d p) :
    ∃ (cs : Array Value) (ys : List (DataW H × List MemPlace)) (n : Nat), v = .agg cs ∧ cs.size = fs.size ∧ d = .agg (ys.map (·.1)) ∧ ys.length = fs.size ∧
      ∀ (j : Nat) (f : Field), fs[j]? = some f → ∃ (u : Value) (y : DataW H × List MemPlace), cs[j]? = some u ∧ ys[j]? = some y ∧ DataW.trod enc P w base spare held n f.type [u] = some y := by
  obtain ⟨cs, rfl, hsz⟩ := okWide_struct hs hv
  obtain ⟨fuel, hf⟩ := h
  obtain ⟨ys, n, _, hx, hlen, hyl, hfi⟩ := DataW.trod_struct hs hf
  simp only [Prod.mk.injEq] at hx
  refine ⟨cs, ys, n, rfl, hsz.trans hC, hx.1, hyl, fun j f hj => ?_⟩
  obtain ⟨ho, hk⟩ := hone_of hone j f hj
  have hjl : j < fs.size := (Array.getElem?_eq_some_iff.1 hj).1
  have hcl : j < cs.size := by rw [hsz, hC]; exact hjl
  have h1 := hfi j f hj
  have hcells : (Value.agg cs).cells = cs := rfl
  rw [ho, hk, hcells] at h1
  have hone' : (cs.toList.drop j).take 1 = [cs[j]] := by
    rw [List.drop_eq_getElem_cons (by simpa using hcl)]
    simp
  rw [hone'] at h1
  have hys : ys[j]? = some (ys[j]'(by omega)) := List.getElem?_eq_getElem (by omega)
  exact ⟨_, _, Array.getElem?_eq_getElem hcl, hys, h1.trans hys⟩
theorem agg4 {cs : Array Value} (h : cs.size = 4) {a b c d : Value} (h0 : cs[0]? = some a) (h1 : cs[1]? = some b) (h2 : cs[2]? = some c) (h3 : cs[3]? = some d) : cs = #[a, b, c, d] := by
  obtain ⟨l⟩ := cs
  rcases l with _ | ⟨x0, _ | ⟨x1, _ | ⟨x2, _ | ⟨x3, _ | ⟨x4, l⟩⟩⟩⟩⟩ <;> simp at h
  simp at h0 h1 h2 h3
  subst h0 h1 h2 h3
  rfl
theorem agg3 {cs : Array Value} (h : cs.size = 3) {a b c : Value} (h0 : cs[0]? = some a) (h1 : cs[1]? = some b) (h2 : cs[2]? = some c) : cs = #[a, b, c] := by
  obtain ⟨l⟩ := cs
  rcases l with _ | ⟨x0, _ | ⟨x1, _ | ⟨x2, _ | ⟨x3, l⟩⟩⟩⟩ <;> simp at h
  simp at h0 h1 h2
  subst h0 h1 h2
  rfl
end
end Go.Own
namespace Go.Proofs.YtoafmhbgbofgoaaGreatDoor
open Go.RowKit Go.Own Go.Own.Hd Go.ChangeShapes Go.WideShapes
variable {H : Type} {enc : TypeId × Value → H} {w : World} {base : Nat} {spare : Nat → Bool} {held : Bool}
theorem slice_of_trod {n : Nat} {u : Value} {y : DataW H × List MemPlace} (h : DataW.trod enc Tryz.prog w base spare held n 22 [u] = some y) : ∃ a len cap, u = .slice a len cap ∧ DataW.Trod enc Tryz.prog w base spare held 22 (.slice a len cap) y.1 y.2 := by
  rcases open_slice_fields Tryz.underlying22 Tryz.underlying67 (by kernel_rfl) (by kernel_rfl) h with ⟨hcs, _⟩ | ⟨x, l, c, _, _, _, hcs, _⟩
  · simp at hcs
    subst hcs
    exact ⟨_, _, _, rfl, n, h⟩
  · simp at hcs
    subst hcs
    exact ⟨_, _, _, rfl, n, h⟩
theorem text_of_trod {n : Nat} {u : Value} {y : DataW H × List MemPlace} (h : DataW.trod enc Tryz.prog w base spare held n 9 [u] = some y) : ∃ s : ByteArray, u = .string s ∧ Rows.uptoBulk y.1 = s.size + 1 := by
  obtain ⟨s0, e0, rfl, _⟩ := DataW.trod_string Tryz.underlying9 h
  simp at e0
  subst e0
  refine ⟨s0, rfl, ?_⟩
  simp only [Rows.uptoBulk]
  rw [Lib.size_eq]
set_option maxRecDepth 100000 in
/-- A call that came in. -/
theorem call_of_trod {r : Reach} {b0 : Nat} {v : Value} {d : DataW H} {p : List MemPlace} (hv : Value.okWide Tryz.prog w r b0 24 v) (h : DataW.Trod enc Tryz.prog w base spare held 24 v d p) (hb : Rows.uptoBulk d ≤ 1048576) :
    ∃ (S U : ByteArray) (ms : Int) (a : Option Addr) (len cap : Nat) (l : List HdrV), v = .agg #[.string S, .string U, .int .i64 ms, .slice a len cap] ∧ (S.size ≤ 1048576 ∧ U.size ≤ 1048576) ∧ (-9223372036854775808 ≤ ms ∧ ms ≤ 9223372036854775807) ∧ Hr w a len l ∧ Szs l ∧ len ≤ 1048576 := by
  obtain ⟨cs, ys, n, rfl, hsz, rfl, hyl, hf⟩ := open_agg_fields Tryz.underlying24 (by kernel_rfl) (by kernel_rfl) hv h
  obtain ⟨u0, y0, c0, z0, t0⟩ := hf 0 _ rfl
  obtain ⟨u1, y1, c1, z1, t1⟩ := hf 1 _ rfl
  obtain ⟨u2, y2, c2, z2, t2⟩ := hf 2 _ rfl
  obtain ⟨u3, y3, c3, z3, t3⟩ := hf 3 _ rfl
  obtain ⟨S, rfl, bS⟩ := text_of_trod t0
  obtain ⟨U, rfl, bU⟩ := text_of_trod t1
  obtain ⟨st, e2, _, hwf⟩ := DataW.trod_int Tryz.underlying3 t2
  simp at e2
  subst e2
  obtain ⟨a, len, cap, rfl, hd⟩ := slice_of_trod t3
  simp only [Rows.uptoBulk] at hb
  have q0 := bulk_part (d := y0.1) (l := ys.map (·.1)) (List.mem_map.2 ⟨_, List.mem_of_getElem? z0, rfl⟩)
  have q1 := bulk_part (d := y1.1) (l := ys.map (·.1)) (List.mem_map.2 ⟨_, List.mem_of_getElem? z1, rfl⟩)
  have q3 := bulk_part (d := y3.1) (l := ys.map (·.1)) (List.mem_map.2 ⟨_, List.mem_of_getElem? z3, rfl⟩)
  obtain ⟨l, hl, _, hz, hn⟩ := hdrs_of_trod hd (by omega)
  exact ⟨S, U, st, a, len, cap, l, congrArg Value.agg (agg4 hsz c0 c1 c2 c3), ⟨by omega, by omega⟩, bounds_i64 hwf, hl, hz, hn⟩
set_option maxRecDepth 100000 in
/-- A status that came in. -/
theorem status_of_trod {r : Reach} {b0 : Nat} {v : Value} {d : DataW H} {p : List MemPlace} (hv : Value.okWide Tryz.prog w r b0 26 v) (h : DataW.Trod enc Tryz.prog w base spare held 26 v d p) (hb : Rows.uptoBulk d ≤ 1048576) :
    ∃ (st : Int) (S : ByteArray) (a : Option Addr) (len cap : Nat) (l : List HdrV), v = .agg #[.int .i64 st, .string S, .slice a len cap] ∧ S.size ≤ 1048576 ∧ Hr w a len l ∧ Szs l ∧ len ≤ 1048576 := by
  obtain ⟨cs, ys, n, rfl, hsz, rfl, hyl, hf⟩ := open_agg_fields Tryz.underlying26 (by kernel_rfl) (by kernel_rfl) hv h
  obtain ⟨u0, y0, c0, z0, t0⟩ := hf 0 _ rfl
  obtain ⟨u1, y1, c1, z1, t1⟩ := hf 1 _ rfl
  obtain ⟨u2, y2, c2, z2, t2⟩ := hf 2 _ rfl
  obtain ⟨st, e0, _, hwf⟩ := DataW.trod_int Tryz.underlying3 t0
  simp at e0
  subst e0
  obtain ⟨S, rfl, bS⟩ := text_of_trod t1
  obtain ⟨a, len, cap, rfl, hd⟩ := slice_of_trod t2
  simp only [Rows.uptoBulk] at hb
  have q1 := bulk_part (d := y1.1) (l := ys.map (·.1)) (List.mem_map.2 ⟨_, List.mem_of_getElem? z1, rfl⟩)
  have q2 := bulk_part (d := y2.1) (l := ys.map (·.1)) (List.mem_map.2 ⟨_, List.mem_of_getElem? z2, rfl⟩)
  obtain ⟨l, hl, _, hz, hn⟩ := hdrs_of_trod hd (by omega)
  exact ⟨st, S, a, len, cap, l, congrArg Value.agg (agg3 hsz c0 c1 c2), by omega, hl, hz, hn⟩
end Go.Proofs.YtoafmhbgbofgoaaGreatDoor
