/-
  Schemas that came in, read as data.
-/
import Derived.Test.YtcjcpkjdhagofaaFa
import Derived.Deep.Slices
import Derived.Deep.Fields
import Derived.ChangeSame
import Derived.ProofKit
import Derived.OpenShut
import Derived.Lib.SmallJoins
namespace Go.Own.Cm
open Go Go.RowKit Go.Own Go.ChangeShapes Go.WideShapes Go.Deep
section
variable {H : Type} {enc : TypeId × Value → H} {P : Program} {w : World} {base : Nat} {spare : Nat → Bool} {held : Bool}
theorem open_slice_fields {t e : TypeId} {fs : Array Field} {fuel : Nat} {cs : List Value} {x : DataW H × List MemPlace} (ht : P.underlying t = some (.slice e)) (he : P.underlying e = some (.struct fs))
    (hone : oneCellFields P fs = true) (hC : P.cellsOf e = fs.size) (h : DataW.trod enc P w base spare held fuel t cs = some x) :
    cs = [.slice none 0 0] ∨
    ∃ (a : Addr) (len cap : Nat), cs = [.slice (some a) len cap] ∧
      ∀ i, i < len → ∃ n : Nat, ∀ (j : Nat) (f : Field), fs[j]? = some f → ∃ (v : Value) (y : DataW H × List MemPlace), w.cell? (a.add (i * fs.size + j)) = some v ∧ DataW.trod enc P w base spare held n f.type [v] = some y := by
  rcases open_slice ht h with ⟨h0, _⟩ | ⟨a, len, cap, m, n, D, Pl, hcs, hb, hl, hm, hmm, hx, hi⟩
  · exact .inl h0
  · refine .inr ⟨a, len, cap, hcs, fun i him => ?_⟩
    obtain ⟨cs', hc, ht'⟩ := hi i (by rw [hmm]; split <;> omega)
    rw [hC] at hc
    obtain ⟨ys, n', hn', hy, hlen, hyl, hf⟩ := DataW.trod_struct he ht'
    obtain ⟨_, hcl, hat⟩ := World.cells?_some hc
    refine ⟨n', fun j f hj => ?_⟩
    obtain ⟨ho, hk⟩ := hone_of hone j f hj
    have hjl : j < fs.size := (Array.getElem?_eq_some_iff.1 hj).1
    have hcell := hat j hjl
    have hv : cs'[j]? = some (cs'[j]'(by omega)) := List.getElem?_eq_getElem (by omega)
    have h1 := hf j f hj
    rw [ho, hk] at h1
    have hone' : (cs'.drop j).take 1 = [cs'[j]'(by omega)] := by
      rw [List.drop_eq_getElem_cons (by omega)]
      rfl
    rw [hone'] at h1
    have hys : ys[j]? = some (ys[j]'(by omega)) := List.getElem?_eq_getElem (by omega)
    refine ⟨_, _, ?_, h1.trans hys⟩
    rw [← Go.Deep.add_add, hcell, hv]
/-- A struct by value whose fields are of one cell. -/
theorem open_agg_fields {r : Reach} {b0 : Nat} {t : TypeId} {fs : Array Field} {v : Value} {d : DataW H} {p : List MemPlace} (hs : P.underlying t = some (.struct fs)) (hone : oneCellFields P fs = true) (hC : P.cellsOf t = fs.size)
    (hv : Value.okWide P w r b0 t v) (h : DataW.Trod enc P w base spare held t v d p) :
    ∃ (cs : Array Value) (ys : List (DataW H × List MemPlace)) (n : Nat), v = .agg cs ∧ cs.size = fs.size ∧ d = .agg (ys.map (·.1)) ∧ ys.length = fs.size ∧
      ∀ (j : Nat) (f : Field), fs[j]? = some f → ∃ (u : Value) (y : DataW H × List MemPlace), cs[j]? = some u ∧ ys[j]? = some y ∧ DataW.trod enc P w base spare held n f.type [u] = some y := by
  obtain ⟨cs, rfl, hsz⟩ := okWide_struct hs hv
  obtain ⟨fuel, hf⟩ := h
  obtain ⟨ys, n, _, hx, hlen, hyl, hfi⟩ := DataW.trod_struct hs hf
  simp only [Prod.mk.injEq] at hx
  refine ⟨cs, ys, n, rfl, hsz.trans hC, hx.1, hyl, fun j f hj => ?_⟩
  obtain ⟨ho, hk⟩ := hone_of hone j f hj
  have hjl : j < fs.size := (Array.getElem?_eq_some_iff.1 hj).1
  have hcl : j < cs.size := by rw [hsz, hC]; exact hjl
  have h1 := hfi j f hj
  have hcells : (Value.agg cs).cells = cs := rfl
  rw [ho, hk, hcells] at h1
  have hone' : (cs.toList.drop j).take 1 = [cs[j]] := by
    rw [List.drop_eq_getElem_cons (by simpa using hcl)]
    simp
  rw [hone'] at h1
  have hys : ys[j]? = some (ys[j]'(by omega)) := List.getElem?_eq_getElem (by omega)
  exact ⟨_, _, Array.getElem?_eq_getElem hcl, hys, h1.trans hys⟩
theorem agg3 {cs : Array Value} (h : cs.size = 3) {a b c : Value} (h0 : cs[0]? = some a) (h1 : cs[1]? = some b) (h2 : cs[2]? = some c) : cs = #[a, b, c] := by
  obtain ⟨l⟩ := cs
  rcases l with _ | ⟨x0, _ | ⟨x1, _ | ⟨x2, _ | ⟨x3, l⟩⟩⟩⟩ <;> simp at h
  simp at h0 h1 h2
  subst h0 h1 h2
  rfl
/-- A slice of structs whose fields are of one cell, read as a list of data. -/
theorem rs_of_trod {α : Type} [Inhabited α] (f : α → Array Value) (Pr : α → Prop) {t e : TypeId} {fs : Array Field} {fuel : Nat} {v : Value} {x : DataW H × List MemPlace} (ht : P.underlying t = some (.slice e)) (he : P.underlying e = some (.struct fs))
    (hone : oneCellFields P fs = true) (hC : P.cellsOf e = fs.size) (hk0 : 0 < fs.size) (hsz : ∀ x, (f x).size = fs.size)
    (dec : ∀ (cs : Nat → Value) (n : Nat), (∀ j fd, fs[j]? = some fd → ∃ y, DataW.trod enc P w base spare held n fd.type [cs j] = some y) → ∃ x : α, (∀ j, j < fs.size → (f x)[j]? = some (cs j)) ∧ Pr x)
    (h : DataW.trod enc P w base spare held fuel t [v] = some x) :
    ∃ A n c l, v = .slice A n c ∧ RS f fs.size w w.heap.size A n l ∧ ∀ x ∈ l, Pr x := by
  rcases open_slice_fields ht he hone hC h with hcs | ⟨a, len, cap, hcs, hx⟩
  · simp at hcs
    subst hcs
    exact ⟨none, 0, 0, [], rfl, RS.nil, fun x hx => nomatch hx⟩
  · simp at hcs
    subst hcs
    have each : ∀ i, i < len → ∃ x : α, (∀ j, j < fs.size → w.cell? (a.add (i * fs.size + j)) = (f x)[j]?) ∧ Pr x := by
      intro i hi
      obtain ⟨n, hn⟩ := hx i hi
      have hc : ∀ j, j < fs.size → ∃ u, w.cell? (a.add (i * fs.size + j)) = some u ∧ ∀ fd, fs[j]? = some fd → ∃ y, DataW.trod enc P w base spare held n fd.type [u] = some y := by
        intro j hj
        obtain ⟨u, y, h1, h2⟩ := hn j _ (Array.getElem?_eq_getElem hj)
        refine ⟨u, h1, fun fd hfd => ?_⟩
        rw [Array.getElem?_eq_getElem hj] at hfd
        cases hfd
        exact ⟨y, h2⟩
      have : Inhabited Value := ⟨undef⟩
      obtain ⟨cs, hcs⟩ := Go.Deep.choose_lt hc
      obtain ⟨x, hx1, hx2⟩ := dec cs n (fun j fd hj => (hcs j (Array.getElem?_eq_some_iff.1 hj).1).2 fd hj)
      exact ⟨x, fun j hj => by rw [hx1 j hj, (hcs j hj).1], hx2⟩
    obtain ⟨O, hO⟩ := Go.Deep.choose_lt each
    refine ⟨some a, len, cap, (List.range len).map O, rfl, ⟨by simp, fun j r hr => ?_⟩, fun r hr => ?_⟩
    · have hj : j < len := by have := (List.getElem?_eq_some_iff.1 hr).1; simpa using this
      obtain rfl : O j = r := by
        rw [List.getElem?_map, List.getElem?_range hj] at hr
        simpa using hr
      obtain ⟨hc, _⟩ := hO j hj
      have h0 := hc 0 hk0
      rw [Nat.add_zero] at h0
      have hblk : a.block < w.heap.size := by
        have h1 : (f (O j))[0]? = some ((f (O j))[0]'(by rw [hsz]; exact hk0)) := Array.getElem?_eq_getElem _
        rw [h1] at h0
        have := World.block_lt_of_cell? w _ h0
        rwa [add_block] at this
      refine ⟨a, rfl, hblk, hblk, h0, fun i u hi hu => ?_⟩
      have e3 : (⟨(a.add (j * fs.size)).block, (a.add (j * fs.size)).off + i, none⟩ : Addr) = a.add (j * fs.size + i) := by
        rw [← add_two]
        show _ = Addr.add _ _
        conv => rhs; unfold Addr.add
        rw [if_neg (by omega)]
        rfl
      rw [e3]
      have h6 : i < fs.size := by have := (Array.getElem?_eq_some_iff.1 hu).1; rwa [hsz] at this
      rw [hc i h6, hu]
    · obtain ⟨i, hi, rfl⟩ := List.mem_map.1 hr
      exact (hO i (by simpa using hi)).2
end
instance : Inhabited FldV := ⟨⟨⟨#[]⟩, ⟨#[]⟩, ⟨#[]⟩, ⟨#[]⟩, 0, 0, 0, false, false, false⟩⟩
instance : Inhabited MsgV := ⟨⟨⟨#[]⟩, none, 0, 0, []⟩⟩
instance : Inhabited EvV := ⟨⟨⟨#[]⟩, 0⟩⟩
instance : Inhabited EnmV := ⟨⟨⟨#[]⟩, none, 0, 0, []⟩⟩
instance : Inhabited MthV := ⟨⟨⟨#[]⟩, ⟨#[]⟩, ⟨#[]⟩, 0⟩⟩
instance : Inhabited SrvV := ⟨⟨⟨#[]⟩, none, 0, 0, []⟩⟩
end Go.Own.Cm
namespace Go.Proofs.Ytcjcpkjdhagofaa
open Go.RowKit Go.Own Go.Own.Cm Go.ChangeShapes Go.WideShapes
section
variable {H : Type} {enc : TypeId × Value → H} {w : World} {base : Nat} {spare : Nat → Bool} {held : Bool}
theorem str_of {n : Nat} {u : Value} {y : DataW H × List MemPlace} (h : DataW.trod enc Try.prog w base spare held n 9 [u] = some y) : ∃ s : ByteArray, u = .string s ∧ s.size ≤ maxLen := by
  obtain ⟨s, e, _, hs⟩ := DataW.trod_string Try.underlying9 h
  simp at e
  exact ⟨s, e, hs⟩
theorem int_of {n : Nat} {u : Value} {y : DataW H × List MemPlace} (h : DataW.trod enc Try.prog w base spare held n 3 [u] = some y) : ∃ z : Int, u = .int .i64 z := by
  obtain ⟨z, e, _⟩ := DataW.trod_int Try.underlying3 h
  simp at e
  exact ⟨z, e⟩
theorem bool_of {n : Nat} {u : Value} {y : DataW H × List MemPlace} (h : DataW.trod enc Try.prog w base spare held n 4 [u] = some y) : ∃ z : Bool, u = .bool z := by
  obtain ⟨z, e, _⟩ := DataW.trod_bool Try.underlying4 h
  simp at e
  exact ⟨z, e⟩
set_option maxRecDepth 100000 in
theorem flds_of {n : Nat} {u : Value} {y : DataW H × List MemPlace} (h : DataW.trod enc Try.prog w base spare held n 43 [u] = some y) :
    ∃ A n c l, u = .slice A n c ∧ RS FldV.cells 10 w w.heap.size A n l ∧ ∀ x ∈ l, x.W := by
  refine rs_of_trod FldV.cells FldV.W Try.underlying43 Try.underlying42 (by kernel_rfl) (by kernel_rfl) (by decide) (fun _ => rfl) (fun cs n hx => ?_) h
  obtain ⟨y0, t0⟩ := hx 0 _ rfl
  obtain ⟨y1, t1⟩ := hx 1 _ rfl
  obtain ⟨y2, t2⟩ := hx 2 _ rfl
  obtain ⟨y3, t3⟩ := hx 3 _ rfl
  obtain ⟨y4, t4⟩ := hx 4 _ rfl
  obtain ⟨y5, t5⟩ := hx 5 _ rfl
  obtain ⟨y6, t6⟩ := hx 6 _ rfl
  obtain ⟨y7, t7⟩ := hx 7 _ rfl
  obtain ⟨y8, t8⟩ := hx 8 _ rfl
  obtain ⟨y9, t9⟩ := hx 9 _ rfl
  obtain ⟨s0, e0, b0⟩ := str_of t0
  obtain ⟨s1, e1, b1⟩ := str_of t1
  obtain ⟨s2, e2, b2⟩ := str_of t2
  obtain ⟨s3, e3, b3⟩ := str_of t3
  obtain ⟨s4, e4⟩ := int_of t4
  obtain ⟨s5, e5⟩ := int_of t5
  obtain ⟨s6, e6⟩ := int_of t6
  obtain ⟨s7, e7⟩ := bool_of t7
  obtain ⟨s8, e8⟩ := bool_of t8
  obtain ⟨s9, e9⟩ := bool_of t9
  refine ⟨⟨s0, s1, s2, s3, s4, s5, s6, s7, s8, s9⟩, fun j hj => ?_, b0, b3⟩
  have : j = 0 ∨ j = 1 ∨ j = 2 ∨ j = 3 ∨ j = 4 ∨ j = 5 ∨ j = 6 ∨ j = 7 ∨ j = 8 ∨ j = 9 := by
    have h10 : j < 10 := hj
    omega
  rcases this with rfl | rfl | rfl | rfl | rfl | rfl | rfl | rfl | rfl | rfl
  · rw [e0]; rfl
  · rw [e1]; rfl
  · rw [e2]; rfl
  · rw [e3]; rfl
  · rw [e4]; rfl
  · rw [e5]; rfl
  · rw [e6]; rfl
  · rw [e7]; rfl
  · rw [e8]; rfl
  · rw [e9]; rfl
set_option maxRecDepth 100000 in
theorem evs_of {n : Nat} {u : Value} {y : DataW H × List MemPlace} (h : DataW.trod enc Try.prog w base spare held n 52 [u] = some y) :
    ∃ A n c l, u = .slice A n c ∧ RS EvV.cells 2 w w.heap.size A n l ∧ ∀ x ∈ l, x.nm.size ≤ maxLen := by
  refine rs_of_trod EvV.cells (fun x => x.nm.size ≤ maxLen) Try.underlying52 Try.underlying57 (by kernel_rfl) (by kernel_rfl) (by decide) (fun _ => rfl) (fun cs n hx => ?_) h
  obtain ⟨y0, t0⟩ := hx 0 _ rfl
  obtain ⟨y1, t1⟩ := hx 1 _ rfl
  obtain ⟨s0, e0, b0⟩ := str_of t0
  obtain ⟨s1, e1⟩ := int_of t1
  refine ⟨⟨s0, s1⟩, fun j hj => ?_, b0⟩
  have : j = 0 ∨ j = 1 := by
    have h10 : j < 2 := hj
    omega
  rcases this with rfl | rfl
  · rw [e0]; rfl
  · rw [e1]; rfl
set_option maxRecDepth 100000 in
theorem mths_of {n : Nat} {u : Value} {y : DataW H × List MemPlace} (h : DataW.trod enc Try.prog w base spare held n 47 [u] = some y) :
    ∃ A n c l, u = .slice A n c ∧ RS MthV.cells 4 w w.heap.size A n l ∧ ∀ x ∈ l, True := by
  refine rs_of_trod MthV.cells (fun _ => True) Try.underlying47 Try.underlying51 (by kernel_rfl) (by kernel_rfl) (by decide) (fun _ => rfl) (fun cs n hx => ?_) h
  obtain ⟨y0, t0⟩ := hx 0 _ rfl
  obtain ⟨y1, t1⟩ := hx 1 _ rfl
  obtain ⟨y2, t2⟩ := hx 2 _ rfl
  obtain ⟨y3, t3⟩ := hx 3 _ rfl
  obtain ⟨s0, e0, b0⟩ := str_of t0
  obtain ⟨s1, e1, b1⟩ := str_of t1
  obtain ⟨s2, e2, b2⟩ := str_of t2
  obtain ⟨s3, e3⟩ := int_of t3
  refine ⟨⟨s0, s1, s2, s3⟩, fun j hj => ?_, trivial⟩
  have : j = 0 ∨ j = 1 ∨ j = 2 ∨ j = 3 := by
    have h10 : j < 4 := hj
    omega
  rcases this with rfl | rfl | rfl | rfl
  · rw [e0]; rfl
  · rw [e1]; rfl
  · rw [e2]; rfl
  · rw [e3]; rfl
set_option maxRecDepth 100000 in
theorem msgs_of {n : Nat} {u : Value} {y : DataW H × List MemPlace} (h : DataW.trod enc Try.prog w base spare held n 22 [u] = some y) :
    ∃ A n c l, u = .slice A n c ∧ RS MsgV.cells 2 w w.heap.size A n l ∧ ∀ m ∈ l, RS FldV.cells 10 w w.heap.size m.fA m.fn m.fs ∧ ∀ f ∈ m.fs, f.W := by
  refine rs_of_trod MsgV.cells (fun m => RS FldV.cells 10 w w.heap.size m.fA m.fn m.fs ∧ ∀ f ∈ m.fs, f.W) Try.underlying22 Try.underlying45 (by kernel_rfl) (by kernel_rfl) (by decide) (fun _ => rfl) (fun cs n hx => ?_) h
  obtain ⟨y0, t0⟩ := hx 0 _ rfl
  obtain ⟨y1, t1⟩ := hx 1 _ rfl
  obtain ⟨s0, e0, b0⟩ := str_of t0
  obtain ⟨A, n', c, l, e1, hl, hw⟩ := flds_of t1
  refine ⟨⟨s0, A, n', c, l⟩, fun j hj => ?_, hl, hw⟩
  have : j = 0 ∨ j = 1 := by
    have h10 : j < 2 := hj
    omega
  rcases this with rfl | rfl
  · rw [e0]; rfl
  · rw [e1]; rfl
set_option maxRecDepth 100000 in
theorem enms_of {n : Nat} {u : Value} {y : DataW H × List MemPlace} (h : DataW.trod enc Try.prog w base spare held n 23 [u] = some y) :
    ∃ A n c l, u = .slice A n c ∧ RS EnmV.cells 2 w w.heap.size A n l ∧ ∀ m ∈ l, RS EvV.cells 2 w w.heap.size m.vA m.vn m.vs ∧ ∀ v ∈ m.vs, v.nm.size ≤ maxLen := by
  refine rs_of_trod EnmV.cells (fun m => RS EvV.cells 2 w w.heap.size m.vA m.vn m.vs ∧ ∀ v ∈ m.vs, v.nm.size ≤ maxLen) Try.underlying23 Try.underlying54 (by kernel_rfl) (by kernel_rfl) (by decide) (fun _ => rfl) (fun cs n hx => ?_) h
  obtain ⟨y0, t0⟩ := hx 0 _ rfl
  obtain ⟨y1, t1⟩ := hx 1 _ rfl
  obtain ⟨s0, e0, b0⟩ := str_of t0
  obtain ⟨A, n', c, l, e1, hl, hw⟩ := evs_of t1
  refine ⟨⟨s0, A, n', c, l⟩, fun j hj => ?_, hl, hw⟩
  have : j = 0 ∨ j = 1 := by
    have h10 : j < 2 := hj
    omega
  rcases this with rfl | rfl
  · rw [e0]; rfl
  · rw [e1]; rfl
set_option maxRecDepth 100000 in
theorem srvs_of {n : Nat} {u : Value} {y : DataW H × List MemPlace} (h : DataW.trod enc Try.prog w base spare held n 24 [u] = some y) :
    ∃ A n c l, u = .slice A n c ∧ RS SrvV.cells 2 w w.heap.size A n l ∧ ∀ m ∈ l, RS MthV.cells 4 w w.heap.size m.tA m.tn m.ts := by
  refine rs_of_trod SrvV.cells (fun m => RS MthV.cells 4 w w.heap.size m.tA m.tn m.ts) Try.underlying24 Try.underlying49 (by kernel_rfl) (by kernel_rfl) (by decide) (fun _ => rfl) (fun cs n hx => ?_) h
  obtain ⟨y0, t0⟩ := hx 0 _ rfl
  obtain ⟨y1, t1⟩ := hx 1 _ rfl
  obtain ⟨s0, e0, b0⟩ := str_of t0
  obtain ⟨A, n', c, l, e1, hl, hw⟩ := mths_of t1
  refine ⟨⟨s0, A, n', c, l⟩, fun j hj => ?_, hl⟩
  have : j = 0 ∨ j = 1 := by
    have h10 : j < 2 := hj
    omega
  rcases this with rfl | rfl
  · rw [e0]; rfl
  · rw [e1]; rfl
/-- A schema that came in. -/
theorem sch_of {b0 : Nat} {r : Reach} {v : Value} {d : DataW H} {p : List MemPlace} (hv : Value.okWide Try.prog w r b0 26 v) (h : DataW.Trod enc Try.prog w base spare held 26 v d p) :
    ∃ s : SchV, v = .agg s.cells ∧ SchR w w.heap.size s ∧ SchW s := by
  obtain ⟨cs, ys, n, rfl, hsz, _, _, hf⟩ := open_agg_fields Try.underlying26 (by kernel_rfl) (by kernel_rfl) hv h
  obtain ⟨u0, y0, c0, _, t0⟩ := hf 0 _ rfl
  obtain ⟨u1, y1, c1, _, t1⟩ := hf 1 _ rfl
  obtain ⟨u2, y2, c2, _, t2⟩ := hf 2 _ rfl
  obtain ⟨A0, n0, k0, l0, rfl, m1, m2⟩ := msgs_of t0
  obtain ⟨A1, n1, k1, l1, rfl, e1, e2⟩ := enms_of t1
  obtain ⟨A2, n2, k2, l2, rfl, s1, s2⟩ := srvs_of t2
  obtain rfl := agg3 hsz c0 c1 c2
  exact ⟨⟨A0, n0, k0, l0, A1, n1, k1, l1, A2, n2, k2, l2⟩, rfl, ⟨m1, fun m hm => (m2 m hm).1, e1, fun e he => (e2 e he).1, s1, s2⟩, ⟨fun m hm => (m2 m hm).2, fun e he => (e2 e he).2⟩⟩
end
end Go.Proofs.Ytcjcpkjdhagofaa
