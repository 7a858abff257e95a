/-
  Lists of rules and a call that came in, not too bulky.
-/
import Derived.Test.YthokfopeddaiiaaGreatDoorEo
import Derived.Test.YthokfopeddaiiaaGreatDoorTw
import Derived.Test.YthokfopeddaiiaaGreatDoorBytes
import Derived.Lib.SmallJoins
import Derived.Stop.Joined
import Derived.Deep.DeepHandedRow
namespace Go.Own
open Go.ChangeShapes Go.WideShapes Go.Deep
section
variable {H : Type} {enc : TypeId × Value → H} {P : Program} {w : World} {base : Nat} {spare : Nat → Bool} {held : Bool}
/-- A struct by value whose fields are of one cell. -/
theorem open_agg_fields {r : Reach} {b0 : Nat} {t : TypeId} {fs : Array Field} {v : Value} {d : DataW H} {p : List MemPlace} (hs : P.underlying t = some (.struct fs)) (hone : oneCellFields P fs = true) (hC : P.cellsOf t = fs.size)
    (hv : Value.okWide P w r b0 t v) (h : DataW.Trod enc P w base spare held t v d p) :
    ∃ (cs : Array Value) (ys : List (DataW H × List MemPlace)) (n : Nat), v = .agg cs ∧ cs.size = fs.size ∧ d = .agg (ys.map (·.1)) ∧ ys.length = fs.size ∧
      ∀ (j : Nat) (f : Field), fs[j]? = some f → ∃ (u : Value) (y : DataW H × List MemPlace), cs[j]? = some u ∧ ys[j]? = some y ∧ DataW.trod enc P w base spare held n f.type [u] = some y := by
  obtain ⟨cs, rfl, hsz⟩ := okWide_struct hs hv
  obtain ⟨fuel, hf⟩ := h
  obtain ⟨ys, n, _, hx, hlen, hyl, hfi⟩ := DataW.trod_struct hs hf
  simp only [Prod.mk.injEq] at hx
  refine ⟨cs, ys, n, rfl, hsz.trans hC, hx.1, hyl, fun j f hj => ?_⟩
  obtain ⟨ho, hk⟩ := hone_of hone j f hj
  have hjl : j < fs.size := (Array.getElem?_eq_some_iff.1 hj).1
  have hcl : j < cs.size := by rw [hsz, hC]; exact hjl
  have h1 := hfi j f hj
  have hcells : (Value.agg cs).cells = cs := rfl
  rw [ho, hk, hcells] at h1
  have hone' : (cs.toList.drop j).take 1 = [cs[j]] := by
    rw [List.drop_eq_getElem_cons (by simpa using hcl)]
    simp
  rw [hone'] at h1
  have hys : ys[j]? = some (ys[j]'(by omega)) := List.getElem?_eq_getElem (by omega)
  exact ⟨_, _, Array.getElem?_eq_getElem hcl, hys, h1.trans hys⟩
theorem agg3 {cs : Array Value} (h : cs.size = 3) {a b c : Value} (h0 : cs[0]? = some a) (h1 : cs[1]? = some b) (h2 : cs[2]? = some c) : cs = #[a, b, c] := by
  obtain ⟨l⟩ := cs
  rcases l with _ | ⟨x0, _ | ⟨x1, _ | ⟨x2, _ | ⟨x3, l⟩⟩⟩⟩ <;> simp at h
  simp at h0 h1 h2
  subst h0 h1 h2
  rfl
end
end Go.Own
namespace Go.Proofs.YthokfopeddaiiaaGreatDoor
open Go.RowKit Go.Own Go.Own.Fn Go.ChangeShapes Go.WideShapes
/-! ### Bulk -/
theorem bulk_part {H : Type} {d : DataW H} : ∀ {l : List (DataW H)}, d ∈ l → Rows.uptoBulk d ≤ Rows.uptoBulkAll l
  | x :: r, h => by
    simp only [Rows.uptoBulkAll]
    rcases List.mem_cons.1 h with rfl | h
    · omega
    · have := bulk_part h; omega
theorem bulk_pos {H : Type} (d : DataW H) : 1 ≤ Rows.uptoBulk d := by
  cases d with
  | lit l => cases l <;> simp [Rows.uptoBulk]
  | _ => simp [Rows.uptoBulk]
theorem bulk_len {H : Type} : ∀ l : List (DataW H), l.length ≤ Rows.uptoBulkAll l
  | [] => Nat.zero_le _
  | x :: r => by
    have := bulk_pos x
    have := bulk_len r
    simp only [Rows.uptoBulkAll, List.length_cons]; omega
theorem bulk_cond {H : Type} {s : ChangeSpec} {l : List (DataW H)} (h : ∀ k, (Rows.OpenSpec.upto s).cond = some k → k H l = true) : Rows.uptoBulkAll l ≤ 1048576 := by
  have := h Rows.uptoSmall rfl
  exact of_decide_eq_true this
variable {H : Type} {enc : TypeId × Value → H} {w : World} {base : Nat} {spare : Nat → Bool} {held : Bool}
theorem text_of_trod {n : Nat} {u : Value} {y : DataW H × List MemPlace} (h : DataW.trod enc Tryz.prog w base spare held n 9 [u] = some y) : ∃ s : ByteArray, u = .string s ∧ Rows.uptoBulk y.1 = s.size + 1 := by
  obtain ⟨s0, e0, rfl, _⟩ := DataW.trod_string Tryz.underlying9 h
  simp at e0
  subst e0
  refine ⟨s0, rfl, ?_⟩
  simp only [Rows.uptoBulk]
  rw [Lib.size_eq]
theorem num_of_trod {n : Nat} {u : Value} {y : DataW H × List MemPlace} (h : DataW.trod enc Tryz.prog w base spare held n 3 [u] = some y) : ∃ z : Int, u = .int .i64 z := by
  obtain ⟨z0, hz0, _⟩ := DataW.trod_int Tryz.underlying3 h
  simp at hz0
  exact ⟨z0, hz0⟩
set_option maxRecDepth 100000 in
/-- A slice of rules that came in. -/
theorem rules_of_trod {a : Option Addr} {len cap : Nat} {d : DataW H} {p : List MemPlace} (h : DataW.Trod enc Tryz.prog w base spare held 22 (.slice a len cap) d p) (hb : Rows.uptoBulk d ≤ 1048576) :
    ∃ l, Rs w a len l ∧ (∀ r ∈ l, SzR r) ∧ len ≤ 1048576 := by
  obtain ⟨fuel, hf⟩ := h
  rcases open_slice_fields Tryz.underlying22 Tryz.underlying46 (by kernel_rfl) (by kernel_rfl) hf with ⟨hcs, _⟩ | ⟨x, l, c, m, D, Pl, hcs, _, hl, hm, hmm, hd, hx⟩
  · simp [Value.cells] at hcs
    obtain ⟨rfl, rfl, rfl⟩ := hcs
    exact ⟨[], ⟨rfl, fun j r hr => by simp at hr⟩, (fun r hr => nomatch hr), by omega⟩
  · simp [Value.cells] at hcs
    obtain ⟨rfl, rfl, rfl⟩ := hcs
    have hle : len ≤ m := by rw [hmm]; split <;> omega
    simp only [Prod.mk.injEq] at hd
    obtain ⟨rfl, _⟩ := hd
    simp only [Rows.uptoBulk] at hb
    have hlen : len ≤ 1048576 := by
      have := bulk_len ((List.range len).map D)
      simp at this
      omega
    have each : ∀ i, i < len → ∃ r : RuleV, (w.cell? (x.add (i * 6)) = some (.string r.path) ∧ w.cell? (x.add (i * 6 + 1)) = some (.string r.name) ∧ w.cell? (x.add (i * 6 + 2)) = some (.string r.value) ∧ w.cell? (x.add (i * 6 + 3)) = some (.int .i64 r.kind) ∧ w.cell? (x.add (i * 6 + 4)) = some (.int .i64 r.code) ∧ w.cell? (x.add (i * 6 + 5)) = some (.int .i64 r.n)) ∧ SzR r := by
      intro i hi
      obtain ⟨ys, n, hD, _, hyl, hfi⟩ := hx i (by omega)
      obtain ⟨v0, y0, hc0, hy0, ht0⟩ := hfi 0 _ rfl
      obtain ⟨v1, y1, hc1, hy1, ht1⟩ := hfi 1 _ rfl
      obtain ⟨v2, y2, hc2, hy2, ht2⟩ := hfi 2 _ rfl
      obtain ⟨v3, y3, hc3, hy3, ht3⟩ := hfi 3 _ rfl
      obtain ⟨v4, y4, hc4, hy4, ht4⟩ := hfi 4 _ rfl
      obtain ⟨v5, y5, hc5, hy5, ht5⟩ := hfi 5 _ rfl
      obtain ⟨s0, rfl, b0⟩ := text_of_trod ht0
      obtain ⟨s1, rfl, b1⟩ := text_of_trod ht1
      obtain ⟨s2, rfl, b2⟩ := text_of_trod ht2
      obtain ⟨s3, rfl⟩ := num_of_trod ht3
      obtain ⟨s4, rfl⟩ := num_of_trod ht4
      obtain ⟨s5, rfl⟩ := num_of_trod ht5
      have hDb : Rows.uptoBulk (D i) ≤ 1048576 := by
        have := bulk_part (d := D i) (l := (List.range len).map D) (List.mem_map.2 ⟨i, by simpa using hi, rfl⟩)
        omega
      rw [hD] at hDb
      simp only [Rows.uptoBulk] at hDb
      have q0 := bulk_part (d := y0.1) (l := ys.map (·.1)) (List.mem_map.2 ⟨_, List.mem_of_getElem? hy0, rfl⟩)
      have q1 := bulk_part (d := y1.1) (l := ys.map (·.1)) (List.mem_map.2 ⟨_, List.mem_of_getElem? hy1, rfl⟩)
      have q2 := bulk_part (d := y2.1) (l := ys.map (·.1)) (List.mem_map.2 ⟨_, List.mem_of_getElem? hy2, rfl⟩)
      refine ⟨⟨s0, s1, s2, s3, s4, s5⟩, ⟨by simpa using hc0, hc1, hc2, hc3, hc4, hc5⟩, ?_, ?_, ?_⟩
      · show s0.size ≤ _; omega
      · show s1.size ≤ _; omega
      · show s2.size ≤ _; omega
    have : Inhabited RuleV := ⟨⟨⟨#[]⟩, ⟨#[]⟩, ⟨#[]⟩, 0, 0, 0⟩⟩
    obtain ⟨O, hO⟩ := Go.Deep.choose_lt (α := RuleV) each
    refine ⟨(List.range len).map O, ⟨by simp, fun j r hr => ?_⟩, fun r hr => ?_, hlen⟩
    · have hj : j < len := by have := (List.getElem?_eq_some_iff.1 hr).1; simpa using this
      obtain rfl : O j = r := by
        rw [List.getElem?_map, List.getElem?_range hj] at hr
        simpa using hr
      obtain ⟨⟨c0, c1, c2, c3, c4, c5⟩, _⟩ := hO j hj
      have hblk := World.block_lt_of_cell? w _ c0
      rw [add_block] at hblk
      refine ⟨x, rfl, hblk, c0, fun i v hi hv => ?_⟩
      have e3 : ∀ i, 1 ≤ i → (⟨(x.add (j * 6)).block, (x.add (j * 6)).off + i, none⟩ : Addr) = x.add (j * 6 + i) := fun i hi => by
        rw [← add_two]
        show _ = Addr.add _ _
        conv => rhs; unfold Addr.add
        rw [if_neg (by omega)]
        rfl
      rw [e3 i hi]
      have h6 : i < 6 := (Array.getElem?_eq_some_iff.1 hv).1
      have : i = 1 ∨ i = 2 ∨ i = 3 ∨ i = 4 ∨ i = 5 := by omega
      rcases this with rfl | rfl | rfl | rfl | rfl
      · cases hv; exact c1
      · cases hv; exact c2
      · cases hv; exact c3
      · cases hv; exact c4
      · cases hv; exact c5
    · obtain ⟨i, hi, rfl⟩ := List.mem_map.1 hr
      exact (hO i (by simpa using hi)).2
set_option maxRecDepth 100000 in
/-- A slice of headers that came in. -/
theorem hdrs_of_trod {a : Option Addr} {len cap : Nat} {d : DataW H} {p : List MemPlace} (h : DataW.Trod enc Tryz.prog w base spare held 23 (.slice a len cap) d p) (hb : Rows.uptoBulk d ≤ 1048576) :
    ∃ l, Hr w a len l ∧ Szh l ∧ len ≤ 1048576 := by
  obtain ⟨fuel, hf⟩ := h
  rcases open_slice_fields Tryz.underlying23 Tryz.underlying34 (by kernel_rfl) (by kernel_rfl) hf with ⟨hcs, _⟩ | ⟨x, l, c, m, D, Pl, hcs, _, hl, hm, hmm, hd, hx⟩
  · simp [Value.cells] at hcs
    obtain ⟨rfl, rfl, rfl⟩ := hcs
    exact ⟨[], ⟨rfl, fun j u hu => by simp [hcells] at hu⟩, (fun h hh => nomatch hh), by omega⟩
  · simp [Value.cells] at hcs
    obtain ⟨rfl, rfl, rfl⟩ := hcs
    have hle : len ≤ m := by rw [hmm]; split <;> omega
    simp only [Prod.mk.injEq] at hd
    obtain ⟨rfl, _⟩ := hd
    simp only [Rows.uptoBulk] at hb
    have hlen : len ≤ 1048576 := by
      have := bulk_len ((List.range len).map D)
      simp at this
      omega
    have each : ∀ i, i < len → ∃ o : HdrV, (w.cell? (x.add (i * 3)) = some (.string o.name) ∧ w.cell? (x.add (i * 3 + 1)) = some (.string o.value) ∧ w.cell? (x.add (i * 3 + 2)) = some (.bool o.never)) ∧ o.name.size ≤ 1048576 ∧ o.value.size ≤ 1048576 := by
      intro i hi
      obtain ⟨ys, n, hD, _, hyl, hfi⟩ := hx i (by omega)
      obtain ⟨v0, y0, hc0, hy0, ht0⟩ := hfi 0 _ rfl
      obtain ⟨v1, y1, hc1, hy1, ht1⟩ := hfi 1 _ rfl
      obtain ⟨v2, y2, hc2, _, ht2⟩ := hfi 2 _ rfl
      obtain ⟨s0, rfl, b0⟩ := text_of_trod ht0
      obtain ⟨s1, rfl, b1⟩ := text_of_trod ht1
      obtain ⟨b2, e2, rfl⟩ := DataW.trod_bool Tryz.underlying4 ht2
      simp at e2
      subst e2
      have hDb : Rows.uptoBulk (D i) ≤ 1048576 := by
        have := bulk_part (d := D i) (l := (List.range len).map D) (List.mem_map.2 ⟨i, by simpa using hi, rfl⟩)
        omega
      rw [hD] at hDb
      simp only [Rows.uptoBulk] at hDb
      have q0 := bulk_part (d := y0.1) (l := ys.map (·.1)) (List.mem_map.2 ⟨_, List.mem_of_getElem? hy0, rfl⟩)
      have q1 := bulk_part (d := y1.1) (l := ys.map (·.1)) (List.mem_map.2 ⟨_, List.mem_of_getElem? hy1, rfl⟩)
      exact ⟨⟨s0, s1, b2⟩, ⟨by simpa using hc0, hc1, hc2⟩, by show s0.size ≤ _; omega, by show s1.size ≤ _; omega⟩
    have : Inhabited HdrV := ⟨⟨⟨#[]⟩, ⟨#[]⟩, false⟩⟩
    obtain ⟨O, hO⟩ := Go.Deep.choose_lt (α := HdrV) each
    refine ⟨(List.range len).map O, ⟨by simp, fun j u hu => ?_⟩, fun h hh => ?_, hlen⟩
    · have hj := (List.getElem?_eq_some_iff.1 hu).1
      rw [hcells_len] at hj
      simp at hj
      have hk : j / 3 < len := by omega
      have hat := hcells_at ((List.range len).map O) (j / 3) (by simpa using hk)
      simp only [List.getElem_map, List.getElem_range] at hat
      obtain ⟨⟨c0, c1, c2⟩, _⟩ := hO (j / 3) hk
      have hblk := World.block_lt_of_cell? w _ c0
      rw [add_block] at hblk
      refine ⟨x, rfl, hblk, ?_⟩
      have h3 : j = j / 3 * 3 ∨ j = j / 3 * 3 + 1 ∨ j = j / 3 * 3 + 2 := by omega
      rcases h3 with e | e | e
      · rw [e] at hu ⊢; rw [hat.1] at hu; cases hu; exact c0
      · rw [e] at hu ⊢; rw [hat.2.1] at hu; cases hu; exact c1
      · rw [e] at hu ⊢; rw [hat.2.2] at hu; cases hu; exact c2
    · obtain ⟨i, hi, rfl⟩ := List.mem_map.1 hh
      have := (hO i (by simpa using hi)).2
      omega
set_option maxRecDepth 100000 in
/-- A call that came in. -/
theorem call_of_trod {r : Reach} {b0 : Nat} {v : Value} {d : DataW H} {p : List MemPlace} (hv : Value.okWide Tryz.prog w r b0 26 v) (h : DataW.Trod enc Tryz.prog w base spare held 26 v d p) (hb : Rows.uptoBulk d ≤ 1048576) :
    ∃ (x : CallV) (A1 : Option Addr) (m1 c1 : Nat) (A2 : Option Addr) (m2 c2 : Nat), v = .agg #[.string x.path, .slice A1 m1 c1, .slice A2 m2 c2] ∧ Hr w A1 m1 x.hs ∧ Rd w w.heap.size A2 m2 x.body ∧ Szh x.hs ∧ x.path.size ≤ 1048576 ∧ m1 ≤ 1048576 ∧ m2 ≤ 1048576 := by
  obtain ⟨cs, ys, n, rfl, hsz, rfl, hyl, hf⟩ := open_agg_fields Tryz.underlying26 (by kernel_rfl) (by kernel_rfl) hv h
  obtain ⟨u0, y0, c0, z0, t0⟩ := hf 0 _ rfl
  obtain ⟨u1, y1, e1, z1, t1⟩ := hf 1 _ rfl
  obtain ⟨u2, y2, e2, z2, t2⟩ := hf 2 _ rfl
  obtain ⟨s0, rfl, b0⟩ := text_of_trod t0
  have q0 := bulk_part (d := y0.1) (l := ys.map (·.1)) (List.mem_map.2 ⟨_, List.mem_of_getElem? z0, rfl⟩)
  have q1 := bulk_part (d := y1.1) (l := ys.map (·.1)) (List.mem_map.2 ⟨_, List.mem_of_getElem? z1, rfl⟩)
  have q2 := bulk_part (d := y2.1) (l := ys.map (·.1)) (List.mem_map.2 ⟨_, List.mem_of_getElem? z2, rfl⟩)
  simp only [Rows.uptoBulk] at hb
  obtain ⟨A1, m1, c1, rfl⟩ : ∃ A1 m1 c1, u1 = .slice A1 m1 c1 := by
    rcases open_slice_fields Tryz.underlying23 Tryz.underlying34 (by kernel_rfl) (by kernel_rfl) t1 with ⟨hcs, _⟩ | ⟨x, l, c, _, _, _, hcs, _⟩
    · simp at hcs; exact ⟨_, _, _, hcs⟩
    · simp at hcs; exact ⟨_, _, _, hcs⟩
  obtain ⟨l, hl, hz, hm1⟩ := hdrs_of_trod ⟨n, t1⟩ (by omega)
  obtain ⟨A2, m2, c2, rfl, hm2⟩ : ∃ A2 m2 c2, u2 = .slice A2 m2 c2 ∧ m2 ≤ 1048576 := by
    rcases open_ints Tryz.underlying24 Tryz.underlying5 (by kernel_rfl) t2 with ⟨hcs, _⟩ | ⟨a, l2, c2, zs, hcs, _, hl2, _, hz2, hx2, _⟩
    · simp at hcs; exact ⟨_, _, _, hcs, by omega⟩
    · simp at hcs
      refine ⟨_, _, _, hcs, ?_⟩
      rw [hx2] at q2
      simp only [Rows.uptoBulk] at q2
      have := bulk_len (lits (H := H) .u8 (zs.take l2))
      have h9 : (lits (H := H) .u8 (zs.take l2)).length = l2 := by
        have hle : l2 ≤ zs.length := by rw [hz2]; split <;> omega
        simp [lits]
        omega
      omega
  obtain ⟨body, hbd, _⟩ := rd_of_trod (W := w) Tryz.underlying24 Tryz.underlying5 (by kernel_rfl) (⟨n, t2⟩ : DataW.Trod enc Tryz.prog w base spare held 24 (.slice A2 m2 c2) y2.1 y2.2)
  exact ⟨⟨s0, l, body⟩, A1, m1, c1, A2, m2, c2, congrArg Value.agg (agg3 hsz c0 e1 e2), hl, hbd, hz, by show s0.size ≤ _; omega, hm1, hm2⟩
end Go.Proofs.YthokfopeddaiiaaGreatDoor
