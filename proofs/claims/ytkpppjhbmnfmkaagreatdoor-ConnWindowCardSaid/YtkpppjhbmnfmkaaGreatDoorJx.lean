/-
  From what a row lists of package-level variables to what the walks read; the last step of a row whose call leaves all that was there as it was.
  From what a row lists of package-level variables to what the walk reads; a struct of two ints by value, opened and shut.
  From what a row lists of package-level variables to what the other walks read.
  An argument that is a slice of bytes, opened as a list of bytes.
-/
import Derived.Test.YtkpppjhbmnfmkaaGreatDoorRows
import Derived.Test.YtkpppjhbmnfmkaaGreatDoorBase
import Derived.ProofKit
import Derived.OpenShut
import Derived.LaidMore
import Derived.LaidLaws
import Derived.ChangeSame
import Derived.Deep.DeepHandedRow
import Derived.Lib.LaidU8
import Derived.Handed
import Derived.Test.YtkpppjhbmnfmkaaGreatDoorL6
import Derived.Deep.Fields
import Derived.Lib.SmallJoins
import Derived.Lib.LaidTab
import Derived.Test.YtkpppjhbmnfmkaaGreatDoorJw
set_option linter.unusedSimpArgs false
set_option linter.unusedVariables false
section
namespace Go.Own
open Go.RowKit Go.WideShapes Go.ChangeShapes

theorem laidVars_mem {P : Program} {w : World} : ∀ {l : List (String × DataW Unit)} {ps : List MemPlace}, DataW.LaidVars P w l ps → ∀ {n : String} {d : DataW Unit}, (n, d) ∈ l →
    ∃ g t cs fuel p, P.globalNamed n = some g ∧ (P.globals[g]?).map (·.type) = some t ∧ w.var? P n = some cs ∧ DataW.trod (fun _ => ()) P w 0 (fun _ => true) false fuel t cs.toList = some (d, p) ∧
      ∀ x ∈ MemPlace.row ⟨g, 0, none⟩ cs.size ++ p, x ∈ ps
  | [], _, _, _, _, hm => by cases hm
  | (n0, d0) :: r, ps, h, n, d, hm => by
    obtain ⟨g, t, cs, fuel, p, q, hg, ht, hv, hd, hr, rfl⟩ := h
    rcases List.mem_cons.1 hm with e | hm
    · injection e with e1 e2
      subst e1 e2
      exact ⟨g, t, cs, fuel, p, hg, ht, hv, hd, fun x hx => List.mem_append_left _ hx⟩
    · obtain ⟨g', t', cs', fuel', p', h1, h2, h3, h4, h5⟩ := laidVars_mem hr hm
      exact ⟨g', t', cs', fuel', p', h1, h2, h3, h4, fun x hx => List.mem_append_right _ (h5 x hx)⟩

/-- A listed error made by errors.New: its variable holds a pointer to it. -/
theorem sentinel_cell {P : Program} {W : World} {l : List (String × DataW Unit)} {n : String} {text : List UInt8} {g ti tp te ts : Nat} {ms : Array (String × TypeId)} {f : Field} (h : laidMet P l W)
    (hm : (n, DataW.iface "*errors.errorString" (.ptr (.agg [.lit (.string text)]))) ∈ l) (hg : P.globalNamed n = some g) (ht : (P.globals[g]?).map (·.type) = some ti)
    (hi : P.underlying ti = some (.interface ms)) (hrow : ∀ u, P.typeName? 3 u = some "*errors.errorString" → u = tp)
    (hp : P.underlying tp = some (.pointer te)) (he : P.underlying te = some (.struct #[f])) (hft : f.type = ts) (hfo : f.offset = 0) (hs : P.underlying ts = some .string) (hc : P.cellsOf te = 1) (hcs : P.cellsOf ts = 1) :
    ∃ a, W.cell? ⟨g, 0, none⟩ = some (.iface tp (.pointer (some a))) := by
  obtain ⟨ps, hl, _, hrows⟩ := h
  obtain ⟨g', t, cs, fuel, p, hg', ht', hv, hd, hin⟩ := laidVars_mem hl hm
  obtain rfl := Option.some.inj (hg.symm.trans hg')
  obtain rfl := Option.some.inj (ht.symm.trans ht')
  obtain ⟨lc⟩ := cs
  have ok : ∀ u v, lc = [.iface u v] → Value.okWide P W .any 0 u v := fun u v e => by
    subst e
    exact (hrows g 0 (hin _ (by simp [MemPlace.row]))).2 u v (by simpa using World.var?_cell hg hv 0)
  obtain ⟨a, s, hcs', _, _, _, _⟩ := errorString_of_trod hi hrow hp he hft hfo hs hc hcs hd ok
  refine ⟨a, ?_⟩
  have := World.var?_cell hg hv 0
  have hcs2 : lc = [.iface tp (.pointer (some a))] := hcs'
  rw [this, hcs2]
  rfl

section
variable {H : Type} {enc : TypeId × Value → H} {P : Program}
/-- The row's last step where all that was there has stayed. -/
theorem post_below {f : Func} {s : ChangeSpec} {apart fresh handsOn again : Bool} {W W' : World} {args : Array Value} {v : Value} {ds gs : List (DataW H)} {before pa pv : List MemPlace}
    (hW : DataW.Whole enc P f.params.toList s.vars apart W args.toList ds gs before)
    (hres : ∀ (b : Nat) (sp : Nat → Bool) (hd : Bool), DataW.TrodAll enc P W' b sp hd f.resultTypes.toList (v.resultList f.resultTypes.size) (s.fn H (ds ++ gs)).results [])
    (hargs : ∀ sp : Nat → Bool, (∀ p ∈ before, sp p.block = true) → DataW.TrodAll enc P W' 0 sp true f.params.toList args.toList (s.fn H (ds ++ gs)).args pa)
    (hvars : ∀ sp : Nat → Bool, (∀ p ∈ before, sp p.block = true) → DataW.TrodVars enc P W' sp s.vars (s.fn H (ds ++ gs)).vars pv)
    (hps : before = pa ++ pv) (hb : Below W.heap.size W W')
    (hok : ∀ (j : Nat) (t : TypeId) (r : Value), f.resultTypes[j]? = some t → (v.resultList f.resultTypes.size)[j]? = some r → Value.okWide P W' .any 0 t r) :
    s.post enc P f apart fresh handsOn again W args v W' := by
  have hlt : ∀ p ∈ before, p.block < W.heap.size := fun p hp => hW.lt p hp
  have hold : ∀ p ∈ before, (fun b => decide (b < W.heap.size)) p.block = true := fun p hp => by simpa using hlt p hp
  refine ⟨ds, gs, before, [], pa, pv, hW, hres _ _ _, hargs _ hold, hvars _ hold, World.keptBut_mono (fun p hp => ⟨hp, ?_⟩) (hb.frame (· ∈ before)), fun _ => ?_⟩
  · rw [hps, List.mem_append] at hp
    exact Or.inr hp
  · obtain ⟨_, _, _, _, _, hz, hn⟩ := hW
    refine ⟨hok, _, _, ([] ++ pa) ++ pv, ⟨[] ++ pa, pv, trodAll_append (hargs _ (fun _ _ => rfl)) (hres _ _ _), hvars _ (fun _ _ => rfl), rfl, ?_, ?_⟩, ?_⟩
    · intro b off hp
      have hin : MemPlace.cell b off ∈ before := by rw [hps]; simpa using hp
      rw [hb.frozen (hlt _ hin)]
      exact hz b off hin
    · intro ha
      have := hn ha
      rw [hps] at this
      simpa using this
    · intro p hp _
      rw [hps]
      simpa using hp
end

/-- The wrap of a row that lists variables, the world's shape handed on. -/
theorem returnsHanded_shaped {H : Type} {enc : TypeId × Value → H} {a : Assume} {C : Checked} {os : Os} {f : FuncId} {fn : Func} {s : ChangeSpec} {conds : List PathCond} {apart fresh handsOn again : Bool} {X : World → Array Value → Prop}
    (hX : ∀ (w w' : World) (args : Array Value), w.heap = w'.heap → X w args → X w' args)
    (own : ownKnob C.prog.godebug = none) (started : os.Started) (noInit : C.prog.inits.idxOf? f = none) (hfn : C.prog.funcs[f]? = some fn)
    (witness : ∃ (w : World) (tape : Tape) (i : Input), w.os = os ∧ (w.forCall tape i).Shaped C.prog ∧ i.vars = [] ∧ Input.okWide C.prog (w.forCall tape i) .any w.heap.size f i ∧
      ((s.pre enc C.prog fn conds apart (w.forCall tape i).memory i.args ∧ X (w.forCall tape i).memory i.args) ∧ sizedMet enc C.prog fn (OpenSpec.ofChange s) apart (w.forCall tape i).memory i.args) ∧ a.holds C.prog (lone (Frame.enter C.prog f i.args .normal) [] (w.forCall tape i)))
    (contract : ∀ (W : World) (base : Nat) (args : Array Value) (ds gs : List (DataW H)) (before : List MemPlace),
      (∀ (j : Nat) t v, fn.params[j]? = some t → args[j]? = some v → Value.okWide C.prog W .any base t v) →
      DataW.Whole enc C.prog fn.params.toList s.vars apart W args.toList ds gs before →
      (DataW.weightsEach C.prog (fn.params.toList ++ s.plain.varTypes C.prog) (ds ++ gs)).all (· ≤ reachBytes) = true → X W args → W.ShapedOpen C.prog →
      Calls C.prog f args W fun e W' => ∃ v, e = .returned v ∧ s.post enc C.prog fn apart fresh handsOn again W args v W') :
    ReturnsInHanded a C os f .any (fun w args => (s.pre enc C.prog fn conds apart w args ∧ X w args) ∧ sizedMet enc C.prog fn (OpenSpec.ofChange s) apart w args) (s.post enc C.prog fn apart fresh handsOn again) := by
  refine returnsInHanded_of_calls own started noInit witness ?_
  intro w tape i _ hsh _ hok hpre hholds
  obtain ⟨_, _, _, fn', hfn', _, _, _, _, hval⟩ := hok
  have e : fn' = fn := Option.some.inj (hfn'.symm.trans hfn)
  subst e
  obtain ⟨⟨⟨ds, gs, before, hw, hc⟩, hx⟩, hz⟩ := hpre
  have hw' := DataW.Whole.of_heap (w' := w.forCall tape i) (by rfl) hw
  refine (contract (w.forCall tape i) w.heap.size i.args ds gs before hval hw' (hz.weights hw) (hX _ _ _ (by rfl) hx) hsh).mono fun e W' ⟨v, he, hp⟩ => ?_
  subst he
  exact ChangeSpec.post_blind hp
end Go.Own

namespace Go.Proofs.YtkpppjhbmnfmkaaGreatDoor
open Go.RowKit Go.Own

theorem knob : ownKnob Tryz.prog.godebug = none := by kernel_rfl
theorem star : "*" ++ "errors.errorString" = "*errors.errorString" := by decide
theorem rowErr (u : TypeId) (h : Tryz.prog.typeName? 3 u = some "*errors.errorString") : u = 327 :=
  typeName_ptr_named (nm := "errors.errorString") (by rw [star]; kernel_rfl) (by kernel_rfl) (by decide) u (by rw [star]; exact h)
theorem cellsErr : Tryz.prog.cellsOf 329 = 1 := by kernel_rfl
theorem cellsStr : Tryz.prog.cellsOf 9 = 1 := by kernel_rfl

theorem sent {W : World} {l : List (String × DataW Unit)} {n : String} {text : List UInt8} {g : Nat} (h : laidMet Tryz.prog l W)
    (hm : (n, DataW.iface "*errors.errorString" (.ptr (.agg [.lit (.string text)]))) ∈ l) (hg : Tryz.prog.globalNamed n = some g) (ht : (Tryz.prog.globals[g]?).map (·.type) = some 28) :
    ∃ a, W.cell? ⟨g, 0, none⟩ = some (.iface 327 (.pointer (some a))) :=
  sentinel_cell h hm hg ht Tryz.underlying28 rowErr Tryz.underlying327 Tryz.underlying329 rfl rfl Tryz.underlying9 cellsErr cellsStr
end Go.Proofs.YtkpppjhbmnfmkaaGreatDoor
end

section
namespace Go.Own
open Go.RowKit Go.WideShapes Go.ChangeShapes Go.Joins Go.Deep Go.WideElems
section
variable {H : Type} {enc : TypeId × Value → H} {P : Program} {w : World} {base : Nat} {spare : Nat → Bool} {held : Bool}
theorem open_pair {r : Reach} {b0 : Nat} {t ti : TypeId} {f0 f1 : Field} {v : Value} {d : DataW H} {p : List MemPlace} (hs : P.underlying t = some (.struct #[f0, f1])) (hone : oneCellFields P #[f0, f1] = true) (hC : P.cellsOf t = 2)
    (e0 : f0.type = ti) (e1 : f1.type = ti) (hi : P.underlying ti = some (.int .i64)) (hv : Value.okWide P w r b0 t v) (h : DataW.Trod enc P w base spare held t v d p) :
    ∃ a b : Int, v = .agg #[.int .i64 a, .int .i64 b] ∧ d = .agg [.lit (.int .i64 a), .lit (.int .i64 b)] ∧ p = [] ∧ (Lit.int .i64 a).wf = true ∧ (Lit.int .i64 b).wf = true := by
  obtain ⟨c0, c1, y0, y1, m, rfl, rfl, rfl, hy0, hy1⟩ := open_agg2 hs hone hC hv h
  rw [e0] at hy0
  rw [e1] at hy1
  obtain ⟨a, h0, rfl, wa⟩ := DataW.trod_int hi hy0
  obtain ⟨b, h1, rfl, wb⟩ := DataW.trod_int hi hy1
  simp at h0 h1
  subst h0 h1
  exact ⟨a, b, rfl, rfl, rfl, wa, wb⟩
theorem shut_pair {t ti : TypeId} {f0 f1 : Field} {a b : Int} (hs : P.underlying t = some (.struct #[f0, f1])) (hone : oneCellFields P #[f0, f1] = true) (hC : P.cellsOf t = 2)
    (e0 : f0.type = ti) (e1 : f1.type = ti) (hi : P.underlying ti = some (.int .i64)) (wa : (Lit.int .i64 a).wf = true) (wb : (Lit.int .i64 b).wf = true) :
    DataW.Trod enc P w base spare held t (.agg #[.int .i64 a, .int .i64 b]) (.agg [.lit (.int .i64 a), .lit (.int .i64 b)]) [] :=
  shut_agg2 (y0 := (.lit (.int .i64 a), [])) (y1 := (.lit (.int .i64 b), [])) hs hone hC ⟨1, by rw [e0]; simp [DataW.trod, hi, wa]⟩ ⟨1, by rw [e1]; simp [DataW.trod, hi, wb]⟩
end
/-- A listed error made by errors.New: its variable holds a pointer to it, and there its text lies. -/
theorem sentinel_full {P : Program} {W : World} {l : List (String × DataW Unit)} {n : String} {text : List UInt8} {g ti tp te ts : Nat} {ms : Array (String × TypeId)} {f : Field} (h : laidMet P l W)
    (hm : (n, DataW.iface "*errors.errorString" (.ptr (.agg [.lit (.string text)]))) ∈ l) (hg : P.globalNamed n = some g) (ht : (P.globals[g]?).map (·.type) = some ti)
    (hi : P.underlying ti = some (.interface ms)) (hrow : ∀ u, P.typeName? 3 u = some "*errors.errorString" → u = tp)
    (hp : P.underlying tp = some (.pointer te)) (he : P.underlying te = some (.struct #[f])) (hft : f.type = ts) (hfo : f.offset = 0) (hs : P.underlying ts = some .string) (hc : P.cellsOf te = 1) (hcs : P.cellsOf ts = 1) :
    ∃ a s, W.cell? ⟨g, 0, none⟩ = some (.iface tp (.pointer (some a))) ∧ W.cell? a = some (.string s) ∧ s.data.toList = text ∧ ∃ c t, W.heap[a.block]? = some (.cells c t (0, 0)) := by
  obtain ⟨ps, hl, _, hrows⟩ := h
  obtain ⟨g', t, cs, fuel, p, hg', ht', hv, hd, hin⟩ := laidVars_mem hl hm
  obtain rfl := Option.some.inj (hg.symm.trans hg')
  obtain rfl := Option.some.inj (ht.symm.trans ht')
  obtain ⟨lc⟩ := cs
  have ok : ∀ u v, lc = [.iface u v] → Value.okWide P W .any 0 u v := fun u v e => by
    subst e
    exact (hrows g 0 (hin _ (by simp [MemPlace.row]))).2 u v (by simpa using World.var?_cell hg hv 0)
  obtain ⟨a, s, hcs', hcell, htx, _, hpl⟩ := errorString_of_trod hi hrow hp he hft hfo hs hc hcs hd ok
  refine ⟨a, s, ?_, hcell, htx, (hrows a.block a.off (hin _ (by rw [hpl]; simp [MemPlace.row]))).1⟩
  have := World.var?_cell hg hv 0
  have hcs2 : lc = [.iface tp (.pointer (some a))] := hcs'
  rw [this, hcs2]
  rfl
end Go.Own
namespace Go.Proofs.YtkpppjhbmnfmkaaGreatDoor
open Go.RowKit Go.Own Go.ChangeShapes Go.WideShapes
theorem sentF {W : World} {l : List (String × DataW Unit)} {n : String} {text : List UInt8} {g : Nat} (h : laidMet Tryz.prog l W)
    (hm : (n, DataW.iface "*errors.errorString" (.ptr (.agg [.lit (.string text)]))) ∈ l) (hg : Tryz.prog.globalNamed n = some g) (ht : (Tryz.prog.globals[g]?).map (·.type) = some 28) :
    ∃ a s, W.cell? ⟨g, 0, none⟩ = some (.iface 327 (.pointer (some a))) ∧ W.cell? a = some (.string s) ∧ s.data.toList = text ∧ ∃ c t, W.heap[a.block]? = some (.cells c t (0, 0)) :=
  sentinel_full h hm hg ht Tryz.underlying28 rowErr Tryz.underlying327 Tryz.underlying329 rfl rfl Tryz.underlying9 cellsErr cellsStr
theorem tab_eq : (Rows.laid_internal_strconv_uint64pow10 : DataW Unit) = Lib.tabData .u64 Lib.pow10Tab := by kernel_rfl
theorem envS_of {W : World} {l : List (String × DataW Unit)} (h : laidMet Tryz.prog l W) (hsh : W.ShapedOpen Tryz.prog)
    (h1 : ("parley/api.ErrHead", Rows.laid_parley_api_ErrHead) ∈ l) (h2 : ("strconv.ErrSyntax", Rows.laid_strconv_ErrSyntax) ∈ l) (h3 : ("strconv.ErrRange", Rows.laid_strconv_ErrRange) ∈ l)
    (h4 : ("parley/api.ErrEnd", Rows.laid_parley_api_ErrEnd) ∈ l) (h5 : ("parley/api.ErrLong", Rows.laid_parley_api_ErrLong) ∈ l) (h8 : ("parley/api.ErrRole", Rows.laid_parley_api_ErrRole) ∈ l) (h9 : ("parley/api.ErrNumber", Rows.laid_parley_api_ErrNumber) ∈ l)
    (h6 : ("internal/strconv.uint64pow10", Rows.laid_internal_strconv_uint64pow10) ∈ l) (h7 : ("parley/api.ErrHuff", Rows.laid_parley_api_ErrHuff) ∈ l) : ∃ a1 a2, EnvS W a1 a2 := by
  obtain ⟨a1, c1⟩ := sent (g := 0) h h1 (by kernel_rfl) (by kernel_rfl)
  obtain ⟨a2, c2⟩ := sent (g := 14) h h2 (by kernel_rfl) (by kernel_rfl)
  obtain ⟨a3, c3⟩ := sent (g := 15) h h3 (by kernel_rfl) (by kernel_rfl)
  obtain ⟨a4, s4, c4, t4, x4, b4⟩ := sentF (g := 10) h h4 (by kernel_rfl) (by kernel_rfl)
  obtain ⟨a5, s5, c5, t5, x5, b5⟩ := sentF (g := 5) h h5 (by kernel_rfl) (by kernel_rfl)
  obtain ⟨a8, c8⟩ := sent (g := 1) h h8 (by kernel_rfl) (by kernel_rfl)
  obtain ⟨a9, c9⟩ := sent (g := 2) h h9 (by kernel_rfl) (by kernel_rfl)
  have hne : a4 ≠ a5 := fun e => by
    rw [e, t5] at t4
    injection t4 with t4
    injection t4 with t4
    rw [t4, x4] at x5
    exact absurd x5 (by decide)
  obtain ⟨m, cm⟩ := Go.Proofs.cell_of_shapedOpen_int (P := Tryz.prog) (g := 13) (zero := #[.int .i64 0]) (t := 3) hsh (of_decide_eq_true (by kernel_rfl)) (by kernel_rfl) rfl (by kernel_rfl) (by kernel_rfl) Tryz.underlying3
  have r2 := Lib.laidMet.reads h h6
  rw [tab_eq] at r2
  obtain ⟨g, t, cs, fuel, p, hg, hty, hvar, hd⟩ := r2
  obtain rfl := Option.some.inj ((show Tryz.prog.globalNamed "internal/strconv.uint64pow10" = some 17 by kernel_rfl).symm.trans hg)
  obtain rfl := Option.some.inj ((show (Tryz.prog.globals[17]?).map (·.type) = some 331 by kernel_rfl).symm.trans hty)
  have hcs := Lib.cells_of_tab Tryz.underlying331 Tryz.underlying228 (by kernel_rfl) (by kernel_rfl) hd
  have hroom : 20 ≤ W.heap.size := by
    obtain ⟨o, _, ho, _⟩ := hsh.2 (Tryz.prog.globals.size) (Nat.le_refl _) (of_decide_eq_true (by kernel_rfl))
    have h1 := (Array.getElem?_eq_some_iff.1 ho).1
    have h2 : 20 ≤ Tryz.prog.globals.size := of_decide_eq_true (by kernel_rfl)
    omega
  refine ⟨a8, a9, ⟨⟨hroom, ⟨a1, a2, a3, c1, c2, c3, ⟨m, cm⟩, ?_, hroom⟩, a4, a5, hne, c4, c5, b4, b5⟩, c8, c9⟩⟩
  unfold Lib.TabIs
  rw [hvar, ← hcs]
end Go.Proofs.YtkpppjhbmnfmkaaGreatDoor
end

section
namespace Go.Proofs.YtkpppjhbmnfmkaaGreatDoor
open Go.RowKit Go.Own Go.ChangeShapes Go.WideShapes
theorem envG_of {W : World} {l : List (String × DataW Unit)} (h : laidMet Tryz.prog l W) (hsh : W.ShapedOpen Tryz.prog)
    (h1 : ("parley/api.ErrHead", Rows.laid_parley_api_ErrHead) ∈ l) (h2 : ("strconv.ErrSyntax", Rows.laid_strconv_ErrSyntax) ∈ l) (h3 : ("strconv.ErrRange", Rows.laid_strconv_ErrRange) ∈ l)
    (h4 : ("parley/api.ErrEnd", Rows.laid_parley_api_ErrEnd) ∈ l) (h5 : ("parley/api.ErrLong", Rows.laid_parley_api_ErrLong) ∈ l) (h8 : ("parley/api.ErrRole", Rows.laid_parley_api_ErrRole) ∈ l) (h9 : ("parley/api.ErrNumber", Rows.laid_parley_api_ErrNumber) ∈ l)
    (h6 : ("internal/strconv.uint64pow10", Rows.laid_internal_strconv_uint64pow10) ∈ l) (h7 : ("parley/api.ErrHuff", Rows.laid_parley_api_ErrHuff) ∈ l) (h10 : ("parley/api.ErrGone", Rows.laid_parley_api_ErrGone) ∈ l) : ∃ a1 a2 a3, EnvS W a1 a2 ∧ GoneAt W a3 := by
  obtain ⟨a1, a2, he⟩ := envS_of h hsh h1 h2 h3 h4 h5 h8 h9 h6 h7
  obtain ⟨a3, c3⟩ := sent (g := 3) h h10 (by kernel_rfl) (by kernel_rfl)
  exact ⟨a1, a2, a3, he, c3⟩
theorem envT_of {W : World} {l : List (String × DataW Unit)} (h : laidMet Tryz.prog l W) (hsh : W.ShapedOpen Tryz.prog)
    (h1 : ("parley/api.ErrHead", Rows.laid_parley_api_ErrHead) ∈ l) (h2 : ("strconv.ErrSyntax", Rows.laid_strconv_ErrSyntax) ∈ l) (h3 : ("strconv.ErrRange", Rows.laid_strconv_ErrRange) ∈ l)
    (h4 : ("parley/api.ErrEnd", Rows.laid_parley_api_ErrEnd) ∈ l) (h5 : ("parley/api.ErrLong", Rows.laid_parley_api_ErrLong) ∈ l) (h8 : ("parley/api.ErrRole", Rows.laid_parley_api_ErrRole) ∈ l) (h9 : ("parley/api.ErrNumber", Rows.laid_parley_api_ErrNumber) ∈ l)
    (h6 : ("internal/strconv.uint64pow10", Rows.laid_internal_strconv_uint64pow10) ∈ l) (h7 : ("parley/api.ErrHuff", Rows.laid_parley_api_ErrHuff) ∈ l) (h10 : ("parley/api.ErrGone", Rows.laid_parley_api_ErrGone) ∈ l) (h11 : ("parley/api.ErrStream", Rows.laid_parley_api_ErrStream) ∈ l) : ∃ a1 a2 a3 a4, EnvS W a1 a2 ∧ GoneAt W a3 ∧ StreamAt W a4 := by
  obtain ⟨a1, a2, a3, he, hg⟩ := envG_of h hsh h1 h2 h3 h4 h5 h8 h9 h6 h7 h10
  obtain ⟨a4, c4⟩ := sent (g := 7) h h11 (by kernel_rfl) (by kernel_rfl)
  exact ⟨a1, a2, a3, a4, he, hg, c4⟩
end Go.Proofs.YtkpppjhbmnfmkaaGreatDoor
end

section
namespace Go.Own
open Go.ChangeShapes Go.WideShapes Go.ChangeAt Go.RowKit
theorem byte_of_wf {z : Int} (h : (Lit.int .u8 z).wf = true) : 0 ≤ z ∧ z ≤ 255 := by
  have := bounds_u8 h
  omega
/-- A slice of bytes that came in. -/
theorem rd_of_trod {H : Type} {enc : TypeId × Value → H} {P : Program} {W : World} {base : Nat} {spare : Nat → Bool} {held : Bool} {t e : TypeId} {a : Option Addr} {len cap : Nat} {d : DataW H} {p : List MemPlace}
    (ht : P.underlying t = some (.slice e)) (he : P.underlying e = some (.int .u8)) (hc : P.cellsOf e = 1) (h : DataW.Trod enc P W base spare held t (.slice a len cap) d p) :
    ∃ l, Rd W W.heap.size a len l ∧ len ≤ cap := by
  obtain ⟨fuel, hf⟩ := h
  rcases open_ints ht he hc hf with ⟨hcs, _⟩ | ⟨x, l, c, zs, hcs, _, hl, hm, hz, _, hcell, hwz⟩
  · simp [Value.cells] at hcs
    obtain ⟨rfl, rfl, rfl⟩ := hcs
    exact ⟨[], ⟨rfl, fun h => absurd h (by omega)⟩, Nat.le_refl _⟩
  · simp [Value.cells] at hcs
    obtain ⟨rfl, rfl, rfl⟩ := hcs
    have hzl : len ≤ zs.length := by rw [hz]; split <;> omega
    refine ⟨(zs.take len).map fun z => UInt8.ofNat z.toNat, ⟨by rw [List.length_map, List.length_take]; omega, fun hn => ⟨x, rfl, ?_, fun j hj => ?_⟩⟩, hl⟩
    · have h0 := hcell 0 (by omega)
      have := World.block_lt_of_cell? W _ h0
      rwa [add_block] at this
    · rw [hcell j (by omega)]
      have hjz : j < zs.length := by omega
      have hw := byte_of_wf (hwz zs[j] (List.getElem_mem hjz))
      have e1 : ((zs.take len).map fun z => UInt8.ofNat z.toNat).getD j 0 = UInt8.ofNat (zs[j]).toNat := by
        simp [List.getD, hj, hjz]
      rw [e1, UInt8.toNat_ofNat_of_lt' (by simp; omega)]
      simp [List.getD, hjz]
      omega
end Go.Own
end
