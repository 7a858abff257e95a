/-
  From what a row lists of package-level variables to what the walk reads; a struct of two ints by value, opened and shut.
-/
import Derived.Test.YtamakfbeofdbfaaGreatDoorLs
import Derived.Test.YtamakfbeofdbfaaGreatDoorJv
import Derived.Deep.Fields
import Derived.ChangeSame
import Derived.ProofKit
import Derived.OpenShut
import Derived.Lib.SmallJoins
import Derived.Lib.LaidTab
set_option linter.unusedSimpArgs false
set_option linter.unusedVariables false
namespace Go.Own
open Go.RowKit Go.WideShapes Go.ChangeShapes Go.Joins Go.Deep Go.WideElems
section
variable {H : Type} {enc : TypeId × Value → H} {P : Program} {w : World} {base : Nat} {spare : Nat → Bool} {held : Bool}
theorem open_pair {r : Reach} {b0 : Nat} {t ti : TypeId} {f0 f1 : Field} {v : Value} {d : DataW H} {p : List MemPlace} (hs : P.underlying t = some (.struct #[f0, f1])) (hone : oneCellFields P #[f0, f1] = true) (hC : P.cellsOf t = 2)
    (e0 : f0.type = ti) (e1 : f1.type = ti) (hi : P.underlying ti = some (.int .i64)) (hv : Value.okWide P w r b0 t v) (h : DataW.Trod enc P w base spare held t v d p) :
    ∃ a b : Int, v = .agg #[.int .i64 a, .int .i64 b] ∧ d = .agg [.lit (.int .i64 a), .lit (.int .i64 b)] ∧ p = [] ∧ (Lit.int .i64 a).wf = true ∧ (Lit.int .i64 b).wf = true := by
  obtain ⟨c0, c1, y0, y1, m, rfl, rfl, rfl, hy0, hy1⟩ := open_agg2 hs hone hC hv h
  rw [e0] at hy0
  rw [e1] at hy1
  obtain ⟨a, h0, rfl, wa⟩ := DataW.trod_int hi hy0
  obtain ⟨b, h1, rfl, wb⟩ := DataW.trod_int hi hy1
  simp at h0 h1
  subst h0 h1
  exact ⟨a, b, rfl, rfl, rfl, wa, wb⟩
theorem shut_pair {t ti : TypeId} {f0 f1 : Field} {a b : Int} (hs : P.underlying t = some (.struct #[f0, f1])) (hone : oneCellFields P #[f0, f1] = true) (hC : P.cellsOf t = 2)
    (e0 : f0.type = ti) (e1 : f1.type = ti) (hi : P.underlying ti = some (.int .i64)) (wa : (Lit.int .i64 a).wf = true) (wb : (Lit.int .i64 b).wf = true) :
    DataW.Trod enc P w base spare held t (.agg #[.int .i64 a, .int .i64 b]) (.agg [.lit (.int .i64 a), .lit (.int .i64 b)]) [] :=
  shut_agg2 (y0 := (.lit (.int .i64 a), [])) (y1 := (.lit (.int .i64 b), [])) hs hone hC ⟨1, by rw [e0]; simp [DataW.trod, hi, wa]⟩ ⟨1, by rw [e1]; simp [DataW.trod, hi, wb]⟩
end
/-- A listed error made by errors.New: its variable holds a pointer to it, and there its text lies. -/
theorem sentinel_full {P : Program} {W : World} {l : List (String × DataW Unit)} {n : String} {text : List UInt8} {g ti tp te ts : Nat} {ms : Array (String × TypeId)} {f : Field} (h : laidMet P l W)
    (hm : (n, DataW.iface "*errors.errorString" (.ptr (.agg [.lit (.string text)]))) ∈ l) (hg : P.globalNamed n = some g) (ht : (P.globals[g]?).map (·.type) = some ti)
    (hi : P.underlying ti = some (.interface ms)) (hrow : ∀ u, P.typeName? 3 u = some "*errors.errorString" → u = tp)
    (hp : P.underlying tp = some (.pointer te)) (he : P.underlying te = some (.struct #[f])) (hft : f.type = ts) (hfo : f.offset = 0) (hs : P.underlying ts = some .string) (hc : P.cellsOf te = 1) (hcs : P.cellsOf ts = 1) :
    ∃ a s, W.cell? ⟨g, 0, none⟩ = some (.iface tp (.pointer (some a))) ∧ W.cell? a = some (.string s) ∧ s.data.toList = text ∧ ∃ c t, W.heap[a.block]? = some (.cells c t (0, 0)) := by
  obtain ⟨ps, hl, _, hrows⟩ := h
  obtain ⟨g', t, cs, fuel, p, hg', ht', hv, hd, hin⟩ := laidVars_mem hl hm
  obtain rfl := Option.some.inj (hg.symm.trans hg')
  obtain rfl := Option.some.inj (ht.symm.trans ht')
  obtain ⟨lc⟩ := cs
  have ok : ∀ u v, lc = [.iface u v] → Value.okWide P W .any 0 u v := fun u v e => by
    subst e
    exact (hrows g 0 (hin _ (by simp [MemPlace.row]))).2 u v (by simpa using World.var?_cell hg hv 0)
  obtain ⟨a, s, hcs', hcell, htx, _, hpl⟩ := errorString_of_trod hi hrow hp he hft hfo hs hc hcs hd ok
  refine ⟨a, s, ?_, hcell, htx, (hrows a.block a.off (hin _ (by rw [hpl]; simp [MemPlace.row]))).1⟩
  have := World.var?_cell hg hv 0
  have hcs2 : lc = [.iface tp (.pointer (some a))] := hcs'
  rw [this, hcs2]
  rfl
end Go.Own
namespace Go.Proofs.YtamakfbeofdbfaaGreatDoor
open Go.RowKit Go.Own Go.ChangeShapes Go.WideShapes
theorem sentF {W : World} {l : List (String × DataW Unit)} {n : String} {text : List UInt8} {g : Nat} (h : laidMet Tryz.prog l W)
    (hm : (n, DataW.iface "*errors.errorString" (.ptr (.agg [.lit (.string text)]))) ∈ l) (hg : Tryz.prog.globalNamed n = some g) (ht : (Tryz.prog.globals[g]?).map (·.type) = some 27) :
    ∃ a s, W.cell? ⟨g, 0, none⟩ = some (.iface 278 (.pointer (some a))) ∧ W.cell? a = some (.string s) ∧ s.data.toList = text ∧ ∃ c t, W.heap[a.block]? = some (.cells c t (0, 0)) :=
  sentinel_full h hm hg ht Tryz.underlying27 rowErr Tryz.underlying278 Tryz.underlying280 rfl rfl Tryz.underlying9 cellsErr cellsStr
theorem tab_eq : (Rows.laid_internal_strconv_uint64pow10 : DataW Unit) = Lib.tabData .u64 Lib.pow10Tab := by kernel_rfl
theorem envS_of {W : World} {l : List (String × DataW Unit)} (h : laidMet Tryz.prog l W) (hsh : W.ShapedOpen Tryz.prog)
    (h1 : ("parley/api.ErrHead", Rows.laid_parley_api_ErrHead) ∈ l) (h2 : ("strconv.ErrSyntax", Rows.laid_strconv_ErrSyntax) ∈ l) (h3 : ("strconv.ErrRange", Rows.laid_strconv_ErrRange) ∈ l)
    (h4 : ("parley/api.ErrEnd", Rows.laid_parley_api_ErrEnd) ∈ l) (h5 : ("parley/api.ErrLong", Rows.laid_parley_api_ErrLong) ∈ l) (h8 : ("parley/api.ErrRole", Rows.laid_parley_api_ErrRole) ∈ l) (h9 : ("parley/api.ErrNumber", Rows.laid_parley_api_ErrNumber) ∈ l)
    (h6 : ("internal/strconv.uint64pow10", Rows.laid_internal_strconv_uint64pow10) ∈ l) (h7 : ("math/bits.deBruijn64tab", Rows.laid_math_bits_deBruijn64tab) ∈ l) : ∃ a1 a2, EnvS W a1 a2 := by
  obtain ⟨a1, c1⟩ := sent (g := 8) h h1 (by kernel_rfl) (by kernel_rfl)
  obtain ⟨a2, c2⟩ := sent (g := 12) h h2 (by kernel_rfl) (by kernel_rfl)
  obtain ⟨a3, c3⟩ := sent (g := 13) h h3 (by kernel_rfl) (by kernel_rfl)
  obtain ⟨a4, s4, c4, t4, x4, b4⟩ := sentF (g := 5) h h4 (by kernel_rfl) (by kernel_rfl)
  obtain ⟨a5, s5, c5, t5, x5, b5⟩ := sentF (g := 2) h h5 (by kernel_rfl) (by kernel_rfl)
  obtain ⟨a8, c8⟩ := sent (g := 0) h h8 (by kernel_rfl) (by kernel_rfl)
  obtain ⟨a9, c9⟩ := sent (g := 1) h h9 (by kernel_rfl) (by kernel_rfl)
  have hne : a4 ≠ a5 := fun e => by
    rw [e, t5] at t4
    injection t4 with t4
    injection t4 with t4
    rw [t4, x4] at x5
    exact absurd x5 (by decide)
  obtain ⟨m, cm⟩ := Go.Proofs.cell_of_shapedOpen_int (P := Tryz.prog) (g := 11) (zero := #[.int .i64 0]) (t := 3) hsh (of_decide_eq_true (by kernel_rfl)) (by kernel_rfl) rfl (by kernel_rfl) (by kernel_rfl) Tryz.underlying3
  have r2 := Lib.laidMet.reads h h6
  rw [tab_eq] at r2
  obtain ⟨g, t, cs, fuel, p, hg, hty, hvar, hd⟩ := r2
  obtain rfl := Option.some.inj ((show Tryz.prog.globalNamed "internal/strconv.uint64pow10" = some 15 by kernel_rfl).symm.trans hg)
  obtain rfl := Option.some.inj ((show (Tryz.prog.globals[15]?).map (·.type) = some 282 by kernel_rfl).symm.trans hty)
  have hcs := Lib.cells_of_tab Tryz.underlying282 Tryz.underlying170 (by kernel_rfl) (by kernel_rfl) hd
  have hroom : 20 ≤ W.heap.size := by
    obtain ⟨g, t, cs, fuel, p, hg, hty, hvar, hd⟩ := Lib.laidMet.reads h h7
    obtain rfl := Option.some.inj ((show Tryz.prog.globalNamed "math/bits.deBruijn64tab" = some 19 by kernel_rfl).symm.trans hg)
    unfold World.var? at hvar
    rw [hg] at hvar
    simp only [Option.bind_some] at hvar
    rcases hh : W.heap[19]? with _ | o
    · rw [hh] at hvar; cases hvar
    · have hlt := (Array.getElem?_eq_some_iff.1 hh).1
      omega
  refine ⟨a8, a9, ⟨⟨hroom, ⟨a1, a2, a3, c1, c2, c3, ⟨m, cm⟩, ?_, hroom⟩, a4, a5, hne, c4, c5, b4, b5⟩, c8, c9⟩⟩
  unfold Lib.TabIs
  rw [hvar, ← hcs]
end Go.Proofs.YtamakfbeofdbfaaGreatDoor
