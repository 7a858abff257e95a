/-
  Requests and answers that came in by value, not too bulky.
-/
import Derived.Test.YtkikcinpgbgbdaaDoorUp
namespace Go.Own
open Go.ChangeShapes Go.WideShapes Go.Deep
section
variable {H : Type} {enc : TypeId × Value → H} {P : Program} {w : World} {base : Nat} {spare : Nat → Bool} {held : Bool}
/-- A struct by value whose fields are of one cell. -/
theorem open_agg_fields {r : Reach} {b0 : Nat} {t : TypeId} {fs : Array Field} {v : Value} {d : DataW H} {p : List MemPlace} (hs : P.underlying t = some (.struct fs)) (hone : oneCellFields P fs = true) (hC : P.cellsOf t = fs.size)
    (hv : Value.okWide P w r b0 t v) (h : DataW.Trod enc P w base spare held t v d p) :
    ∃ (cs : Array Value) (ys : List (DataW H × List MemPlace)) (n : Nat), v = .agg cs ∧ cs.size = fs.size ∧ d = .agg (ys.map (·.1)) ∧ ys.length = fs.size ∧
      ∀ (j : Nat) (f : Field), fs[j]? = some f → ∃ (u : Value) (y : DataW H × List MemPlace), cs[j]? = some u ∧ ys[j]? = some y ∧ DataW.trod enc P w base spare held n f.type [u] = some y := by
  obtain ⟨cs, rfl, hsz⟩ := okWide_struct hs hv
  obtain ⟨fuel, hf⟩ := h
  obtain ⟨ys, n, _, hx, hlen, hyl, hfi⟩ := DataW.trod_struct hs hf
  simp only [Prod.mk.injEq] at hx
  refine ⟨cs, ys, n, rfl, hsz.trans hC, hx.1, hyl, fun j f hj => ?_⟩
  obtain ⟨ho, hk⟩ := hone_of hone j f hj
  have hjl : j < fs.size := (Array.getElem?_eq_some_iff.1 hj).1
  have hcl : j < cs.size := by rw [hsz, hC]; exact hjl
  have h1 := hfi j f hj
  have hcells : (Value.agg cs).cells = cs := rfl
  rw [ho, hk, hcells] at h1
  have hone' : (cs.toList.drop j).take 1 = [cs[j]] := by
    rw [List.drop_eq_getElem_cons (by simpa using hcl)]
    simp
  rw [hone'] at h1
  have hys : ys[j]? = some (ys[j]'(by omega)) := List.getElem?_eq_getElem (by omega)
  exact ⟨_, _, Array.getElem?_eq_getElem hcl, hys, h1.trans hys⟩
theorem agg5 {cs : Array Value} (h : cs.size = 5) {a b c d e : Value} (h0 : cs[0]? = some a) (h1 : cs[1]? = some b) (h2 : cs[2]? = some c) (h3 : cs[3]? = some d) (h4 : cs[4]? = some e) : cs = #[a, b, c, d, e] := by
  obtain ⟨l⟩ := cs
  rcases l with _ | ⟨x0, _ | ⟨x1, _ | ⟨x2, _ | ⟨x3, _ | ⟨x4, _ | ⟨x5, l⟩⟩⟩⟩⟩⟩ <;> simp at h
  simp at h0 h1 h2 h3 h4
  subst h0 h1 h2 h3 h4
  rfl
theorem agg2 {cs : Array Value} (h : cs.size = 2) {a b : Value} (h0 : cs[0]? = some a) (h1 : cs[1]? = some b) : cs = #[a, b] := by
  obtain ⟨l⟩ := cs
  rcases l with _ | ⟨x0, _ | ⟨x1, _ | ⟨x2, l⟩⟩⟩ <;> simp at h
  simp at h0 h1
  subst h0 h1
  rfl
end
end Go.Own
namespace Go.Proofs.YtkikcinpgbgbdaaDoor
open Go.RowKit Go.Own Go.Own.Hd Go.ChangeShapes Go.WideShapes
variable {H : Type} {enc : TypeId × Value → H} {w : World} {base : Nat} {spare : Nat → Bool} {held : Bool}
theorem slice_of_trod {n : Nat} {u : Value} {y : DataW H × List MemPlace} (h : DataW.trod enc Tryd.prog w base spare held n 22 [u] = some y) : ∃ a len cap, u = .slice a len cap ∧ DataW.Trod enc Tryd.prog w base spare held 22 (.slice a len cap) y.1 y.2 := by
  rcases open_slice_fields Tryd.underlying22 Tryd.underlying26 (by kernel_rfl) (by kernel_rfl) h with ⟨hcs, _⟩ | ⟨x, l, c, _, _, _, hcs, _⟩
  · simp at hcs
    subst hcs
    exact ⟨_, _, _, rfl, n, h⟩
  · simp at hcs
    subst hcs
    exact ⟨_, _, _, rfl, n, h⟩
theorem text_of_trod {n : Nat} {u : Value} {y : DataW H × List MemPlace} (h : DataW.trod enc Tryd.prog w base spare held n 9 [u] = some y) : ∃ s : ByteArray, u = .string s ∧ Rows.uptoBulk y.1 = s.size + 1 := by
  obtain ⟨s0, e0, rfl, _⟩ := DataW.trod_string Tryd.underlying9 h
  simp at e0
  subst e0
  refine ⟨s0, rfl, ?_⟩
  simp only [Rows.uptoBulk]
  rw [Lib.size_eq]
set_option maxRecDepth 100000 in
/-- A request that came in. -/
theorem req_of_trod {r : Reach} {b0 : Nat} {v : Value} {d : DataW H} {p : List MemPlace} (hv : Value.okWide Tryd.prog w r b0 41 v) (h : DataW.Trod enc Tryd.prog w base spare held 41 v d p) (hb : Rows.uptoBulk d ≤ 1048576) :
    ∃ (M S U P : ByteArray) (a : Option Addr) (len cap : Nat) (l : List HdrV), v = .agg #[.string M, .string S, .string U, .string P, .slice a len cap] ∧ (M.size ≤ 1048576 ∧ S.size ≤ 1048576 ∧ U.size ≤ 1048576 ∧ P.size ≤ 1048576) ∧ Hr w a len l ∧ Szs l ∧ len ≤ 1048576 := by
  obtain ⟨cs, ys, n, rfl, hsz, rfl, hyl, hf⟩ := open_agg_fields Tryd.underlying41 (by kernel_rfl) (by kernel_rfl) hv h
  obtain ⟨u0, y0, c0, z0, t0⟩ := hf 0 _ rfl
  obtain ⟨u1, y1, c1, z1, t1⟩ := hf 1 _ rfl
  obtain ⟨u2, y2, c2, z2, t2⟩ := hf 2 _ rfl
  obtain ⟨u3, y3, c3, z3, t3⟩ := hf 3 _ rfl
  obtain ⟨u4, y4, c4, z4, t4⟩ := hf 4 _ rfl
  obtain ⟨M, rfl, bM⟩ := text_of_trod t0
  obtain ⟨S, rfl, bS⟩ := text_of_trod t1
  obtain ⟨U, rfl, bU⟩ := text_of_trod t2
  obtain ⟨P, rfl, bP⟩ := text_of_trod t3
  obtain ⟨a, len, cap, rfl, hd⟩ := slice_of_trod t4
  simp only [Rows.uptoBulk] at hb
  have q0 := bulk_part (d := y0.1) (l := ys.map (·.1)) (List.mem_map.2 ⟨_, List.mem_of_getElem? z0, rfl⟩)
  have q1 := bulk_part (d := y1.1) (l := ys.map (·.1)) (List.mem_map.2 ⟨_, List.mem_of_getElem? z1, rfl⟩)
  have q2 := bulk_part (d := y2.1) (l := ys.map (·.1)) (List.mem_map.2 ⟨_, List.mem_of_getElem? z2, rfl⟩)
  have q3 := bulk_part (d := y3.1) (l := ys.map (·.1)) (List.mem_map.2 ⟨_, List.mem_of_getElem? z3, rfl⟩)
  have q4 := bulk_part (d := y4.1) (l := ys.map (·.1)) (List.mem_map.2 ⟨_, List.mem_of_getElem? z4, rfl⟩)
  obtain ⟨l, hl, _, hz, hn⟩ := hdrs_of_trod hd (by omega)
  exact ⟨M, S, U, P, a, len, cap, l, congrArg Value.agg (agg5 hsz c0 c1 c2 c3 c4), ⟨by omega, by omega, by omega, by omega⟩, hl, hz, hn⟩
set_option maxRecDepth 100000 in
/-- An answer that came in. -/
theorem resp_of_trod {r : Reach} {b0 : Nat} {v : Value} {d : DataW H} {p : List MemPlace} (hv : Value.okWide Tryd.prog w r b0 42 v) (h : DataW.Trod enc Tryd.prog w base spare held 42 v d p) (hb : Rows.uptoBulk d ≤ 1048576) :
    ∃ (st : Int) (a : Option Addr) (len cap : Nat) (l : List HdrV), v = .agg #[.int .i64 st, .slice a len cap] ∧ (-9223372036854775808 ≤ st ∧ st ≤ 9223372036854775807) ∧ Hr w a len l ∧ Szs l ∧ len ≤ 1048576 := by
  obtain ⟨cs, ys, n, rfl, hsz, rfl, hyl, hf⟩ := open_agg_fields Tryd.underlying42 (by kernel_rfl) (by kernel_rfl) hv h
  obtain ⟨u0, y0, c0, z0, t0⟩ := hf 0 _ rfl
  obtain ⟨u4, y4, c4, z4, t4⟩ := hf 1 _ rfl
  obtain ⟨st, e0, _, hwf⟩ := DataW.trod_int Tryd.underlying3 t0
  simp at e0
  subst e0
  obtain ⟨a, len, cap, rfl, hd⟩ := slice_of_trod t4
  simp only [Rows.uptoBulk] at hb
  have q4 := bulk_part (d := y4.1) (l := ys.map (·.1)) (List.mem_map.2 ⟨_, List.mem_of_getElem? z4, rfl⟩)
  obtain ⟨l, hl, _, hz, hn⟩ := hdrs_of_trod hd (by omega)
  have hst := bounds_i64 hwf
  exact ⟨st, a, len, cap, l, congrArg Value.agg (agg2 hsz c0 c4), hst, hl, hz, hn⟩
end Go.Proofs.YtkikcinpgbgbdaaDoor
