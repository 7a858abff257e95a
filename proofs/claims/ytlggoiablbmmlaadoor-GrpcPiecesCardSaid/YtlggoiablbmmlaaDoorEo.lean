/-
  From what a row lists of package-level variables to what this chapter's walks read.
-/
import Derived.Test.YtlggoiablbmmlaaDoorLs
import Derived.Test.YtlggoiablbmmlaaDoorEnv
namespace Go.Proofs.YtlggoiablbmmlaaDoor
open Go.RowKit Go.Own

theorem tab_eq : (Rows.laid_internal_strconv_uint64pow10 : DataW Unit) = Lib.tabData .u64 Lib.pow10Tab := by kernel_rfl
theorem envG_of {W : World} {l : List (String × DataW Unit)} (h : laidMet Tryd.prog l W) (hsh : W.ShapedOpen Tryd.prog)
    (h1 : ("parley/api.ErrGone", Rows.laid_parley_api_ErrGone) ∈ l) (h2 : ("parley/api.ErrFrame", Rows.laid_parley_api_ErrFrame) ∈ l) (h3 : ("parley/api.ErrLong", Rows.laid_parley_api_ErrLong) ∈ l) (h4 : ("parley/api.ErrValue", Rows.laid_parley_api_ErrValue) ∈ l)
    (h5 : ("strconv.ErrSyntax", Rows.laid_strconv_ErrSyntax) ∈ l) (h6 : ("internal/strconv.uint64pow10", Rows.laid_internal_strconv_uint64pow10) ∈ l) (h7 : ("math/bits.deBruijn64tab", Rows.laid_math_bits_deBruijn64tab) ∈ l) : ∃ e1 e2 e3 e4, EnvG W e1 e2 e3 e4 := by
  obtain ⟨a1, c1⟩ := sent (g := 1) h h1 (by kernel_rfl) (by kernel_rfl)
  obtain ⟨a2, c2⟩ := sent (g := 2) h h2 (by kernel_rfl) (by kernel_rfl)
  obtain ⟨a3, c3⟩ := sent (g := 0) h h3 (by kernel_rfl) (by kernel_rfl)
  obtain ⟨a4, c4⟩ := sent (g := 3) h h4 (by kernel_rfl) (by kernel_rfl)
  obtain ⟨a5, c5⟩ := sent (g := 4) h h5 (by kernel_rfl) (by kernel_rfl)
  obtain ⟨m, cm⟩ := Go.Proofs.cell_of_shapedOpen_int (P := Tryd.prog) (g := 9) (zero := #[.int .i64 0]) (t := 3) hsh (of_decide_eq_true (by kernel_rfl)) (by kernel_rfl) rfl (by kernel_rfl) (by kernel_rfl) Tryd.underlying3
  have r2 := Lib.laidMet.reads h h6
  rw [tab_eq] at r2
  obtain ⟨g, t, cs, fuel, p, hg, hty, hvar, hd⟩ := r2
  obtain rfl := Option.some.inj ((show Tryd.prog.globalNamed "internal/strconv.uint64pow10" = some 8 by kernel_rfl).symm.trans hg)
  obtain rfl := Option.some.inj ((show (Tryd.prog.globals[8]?).map (·.type) = some 105 by kernel_rfl).symm.trans hty)
  have hcs := Lib.cells_of_tab Tryd.underlying105 Tryd.underlying55 (by kernel_rfl) (by kernel_rfl) hd
  refine ⟨a1, a2, a3, a4, c1, c2, c3, c4, ⟨_, _, c5⟩, ⟨m, cm⟩, ?_, ?_⟩
  · unfold Lib.TabIs
    rw [hvar, ← hcs]
  · obtain ⟨g, t, cs, fuel, p, hg, hty, hvar, hd⟩ := Lib.laidMet.reads h h7
    obtain rfl := Option.some.inj ((show Tryd.prog.globalNamed "math/bits.deBruijn64tab" = some 11 by kernel_rfl).symm.trans hg)
    unfold World.var? at hvar
    rw [hg] at hvar
    simp only [Option.bind_some] at hvar
    rcases hh : W.heap[11]? with _ | o
    · rw [hh] at hvar; cases hvar
    · exact (Array.getElem?_eq_some_iff.1 hh).1
end Go.Proofs.YtlggoiablbmmlaaDoor
