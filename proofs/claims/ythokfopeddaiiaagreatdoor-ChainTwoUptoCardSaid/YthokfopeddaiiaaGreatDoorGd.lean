/-
  Contracts: slices.DeleteFunc of headers at the kind Remove's question; the kind Remove.
-/
import Derived.Test.YthokfopeddaiiaaGreatDoorGr
namespace Go.Proofs.YthokfopeddaiiaaGreatDoor
open Go.RowKit Go.Own Go.Own.Fn Go.Shelf
attribute [local go_sem] Oper.semAt_some
variable {σ : Type}
/-- s[:i] -/
theorem cut_to {A : Option Addr} {n c k : Nat} (hk : k ≤ n) (hc : n ≤ c) :
    ∀ W : World, (Instr.slice 23 (.slice A n c) none (some (.int .i64 (k : Int))) none).run Tryz.prog W = .ok (.slice A k c) W := fun W => by
  obtain ⟨i, hi, hz, h1, h2⟩ := infoH
  simp [Instr.slice, run_underlying Tryz.underlying23, Instr.sliceBounds, run_sliceBound, sizeOf, typeInfo, hi, h1, Result.andThen, show (k : Int) ≤ c by omega]
  intro _
  cases A <;> simp [Addr.add]
/-- s[i:] -/
theorem cut_on {g n c k : Nat} (hk : k < n) (hc : n ≤ c) :
    ∀ W : World, (Instr.slice 23 (.slice (some ⟨g, 0, none⟩) n c) (some (.int .i64 (k : Int))) none none).run Tryz.prog W = .ok (.slice (some ⟨g, k * 3, none⟩) (n - k) (c - k)) W := fun W => by
  obtain ⟨i, hi, hz, h1, h2⟩ := infoH
  have ha : (⟨g, 0, none⟩ : Addr).add (k * 3) = ⟨g, k * 3, none⟩ := by
    cases k <;> simp [Addr.add]
  simp [Instr.slice, run_underlying Tryz.underlying23, Instr.sliceBounds, run_sliceBound, sizeOf, typeInfo, hi, h1, Result.andThen, show (k : Int) ≤ n by omega, show ¬ c = k by omega, ha]
def keepH (nm : ByteArray) (l : List HdrV) : List HdrV := l.filter fun h => !sameT h.name nm
theorem keep_none {nm : ByteArray} {l : List HdrV} (h : l.any (fun h => sameT h.name nm) = false) : keepH nm l = l := by
  unfold keepH
  rw [List.filter_eq_self]
  intro x hx
  rcases hb : sameT x.name nm with _ | _
  · rfl
  · rw [List.any_eq_true.2 ⟨x, hx, hb⟩] at h; cases h
theorem keep_yes {nm : ByteArray} {l : List HdrV} {k : Nat} {x : HdrV} (hx : l[k]? = some x) (hp : sameT x.name nm = false) : keepH nm (l.take (k + 1)) = keepH nm (l.take k) ++ [x] := by
  rw [take_at l k x hx]; unfold keepH; simp [hp]
theorem keep_no {nm : ByteArray} {l : List HdrV} {k : Nat} {x : HdrV} (hx : l[k]? = some x) (hp : sameT x.name nm = true) : keepH nm (l.take (k + 1)) = keepH nm (l.take k) := by
  rw [take_at l k x hx]; unfold keepH; simp [hp]
/-- While headers are taken out. -/
structure DelJ (w : World) (base g n c br : Nat) (r : RuleV) (l : List HdrV) (i j : Nat) (m : List HdrV) (wr : World) : Prop where
  bel : Below base w wr
  own : Hw wr base (.slice (some ⟨g, 0, none⟩) n c) m
  rule : Blk wr br 46 r.cells
  len : m.length = n
  head : m.take i = keepH r.name (l.take j)
  tail : m.drop j = l.drop j
  lt : i < j ∧ j ≤ n
theorem DelJ.at_ {w wr : World} {base g n c br i j : Nat} {r : RuleV} {l m : List HdrV} (h : DelJ w base g n c br r l i j m wr) (hj : j < n) : m[j]? = l[j]? := by
  have := congrArg (·[0]?) h.tail
  simpa using this
theorem DelJ.less {w wr w2 : World} {base g n c br i j : Nat} {r : RuleV} {l m : List HdrV} {x : HdrV} (h : DelJ w base g n c br r l i j m wr) (hj : j < n) (hx : l[j]? = some x) (hp : sameT x.name r.name = true) (hb : Below wr.heap.size wr w2) (hB : base ≤ wr.heap.size) : DelJ w base g n c br r l i (j + 1) m w2 :=
  ⟨h.bel.trans (hb.mono hB), h.own.below hb, h.rule.below hb h.rule.lt, h.len, by rw [h.head, keep_no hx hp], by
    have e := congrArg (List.drop 1) h.tail
    simpa [List.drop_drop] using e, by have := h.lt; omega⟩
theorem DelJ.more {w wr w2 w3 : World} {base g n c br i j : Nat} {r : RuleV} {l m : List HdrV} {x : HdrV} (h : DelJ w base g n c br r l i j m wr) (hj : j < n) (hx : l[j]? = some x) (hp : sameT x.name r.name = false) (hb : Below wr.heap.size wr w2) (hB : base ≤ wr.heap.size) (hg : base ≤ g) (hbr : br < base)
    (hown : Hw w3 base (.slice (some ⟨g, 0, none⟩) n c) (m.set i x)) (hgr : w2.grownBy w3 (some g)) : DelJ w base g n c br r l (i + 1) (j + 1) (m.set i x) w3 := by
  have hlt := h.lt
  have him : i < m.length := by rw [h.len]; omega
  refine ⟨(h.bel.trans (hb.mono hB)).grown hgr (Nat.le_trans hB hb.size) (fun k e => by injection e with e; omega), hown, (h.rule.below hb h.rule.lt).grown hgr (fun e => by injection e with e; omega), by rw [List.length_set, h.len], ?_, ?_, by omega⟩
  · rw [keep_yes hx hp, ← h.head]
    rw [List.take_succ_eq_append_getElem (by simpa using him), List.take_set_of_le (Nat.le_refl i)]
    simp
  · rw [List.drop_set_of_lt (by omega)]
    have e := congrArg (List.drop 1) h.tail
    simpa [List.drop_drop] using e
def DfPost (base : Nat) (nm : ByteArray) (l : List HdrV) (w : World) (e : Ending) (w' : World) : Prop := ∃ v', e = .returned v' ∧ Hw w' base v' (keepH nm l) ∧ Below base w w'
set_option maxHeartbeats 2000000 in
set_option maxRecDepth 100000 in
theorem deleteFn_any (br : Nat) (r : RuleV) (base : Nat) (v : Value) (l : List HdrV) (w : World) (hn : l.length ≤ 100000) (hown : Hw w base v l) (hB : base ≤ w.heap.size) (hb : Blk w br 46 r.cells) (hbr : br < base) :
    Calls Tryz.prog 62 #[v, delV br] w (DfPost base r.name l w) := by
  have HO := Lib.hid hown
  have HBr := Lib.hid hb
  have HBase := Lib.hid (And.intro hB hbr)
  have HNn := Lib.hid hn
  obtain ⟨A, c, rfl, hnc, _⟩ := hown.form
  obtain ⟨n, hln⟩ : ∃ n, l.length = n := ⟨_, rfl⟩
  rw [hln] at HO HNn hnc ⊢
  have HL := Lib.hid hln
  have HNC := Lib.hid hnc
  have HIf := Lib.hid (indexFn_any br r A n c l w (by have := HNn.out; omega) (Hw.hr HO.out) hb)
  clear hown hb hB hbr hn hln hnc
  have hE : ∀ args w, (callFunc 63 args).run Tryz.prog w = .ok (.enter 63 args) w := enters_of Tryz.func63 (by kernel_rfl) rfl
  go_enter Tryz.func62, Tryz.ntmps62
  go_wp2_with fail
  refine HIf.out.mono ?_
  rintro e w1 ⟨i, rfl, g1, hi⟩
  have HB1 := Lib.hid (g1.mono HBase.out.1)
  have HO1 := Lib.hid (HO.out.below g1)
  have HBr1 := Lib.hid (HBr.out.below g1 HBr.out.lt)
  have HS1 := Lib.hid (Nat.le_trans HBase.out.1 g1.size)
  clear g1 HIf HO HBr
  rcases hi with ⟨rfl, hno⟩ | ⟨k, rfl, hk, hno, x, hx, hp⟩
  · have HNo := Lib.hid hno
    go_wp2
    go_ret
    exact ⟨_, rfl, by rw [keep_none HNo.out]; exact HO1.out, HB1.out⟩
  · have HNo := Lib.hid (And.intro hno (And.intro hx hp))
    have hlp : 0 < l.length := by rw [HL.out]; omega
    obtain ⟨g, cap, e7, hg1, hg2, hcap⟩ := HO1.out.blk hlp
    rw [HL.out] at e7 hcap
    injection e7 with e71 _ e72
    subst e71 e72
    have hk1 : ((k : Int) == -1) = false := by rw [beq_eq_false_iff_ne]; omega
    have HG := Lib.hid hg1
    have HJ0 := Lib.hid (show DelJ w base g n c br r l k (k + 1) l w1 from ⟨HB1.out, HO1.out, HBr1.out, HL.out, by
      rw [keep_no HNo.out.2.1 HNo.out.2.2, keep_none HNo.out.1], rfl, by omega⟩)
    have hN5 := HNn.out
    clear hno hx hp HB1 HO1 HBr1 hlp hg1 hg2 hcap
    go_wp2_with fail
    go_loopw [5, 6] (fun iv jv wr => ∃ (i j : Nat) (m : List HdrV), iv = .int .i64 (i : Int) ∧ jv = .int .i64 (j : Int) ∧ i < j ∧ j ≤ n ∧ Hid (base ≤ wr.heap.size ∧ DelJ w base g n c br r l i j m wr)) (fun _ jv _ => n - (intOf jv).toNat)
    case atStart => exact ⟨k, k + 1, l, rfl, by go_num, by omega, by omega, Lib.hid ⟨HS1.out, HJ0.out⟩⟩
    case round =>
      obtain ⟨i, j, m, rfl, rfl, hij, hjn, hh⟩ := hrel
      by_cases hlt : j < n
      · obtain ⟨ad, x, e', hx, a0, a1, a2⟩ := (Hw.hr hh.out.2.own).at2 hlt
        obtain rfl := Option.some.inj e'
        rw [hh.out.2.at_ hlt] at hx
        have HX := Lib.hid hx
        have hadd : (⟨g, 0, none⟩ : Addr).add (j * 3) = ⟨g, j * 3, none⟩ := by cases j <;> simp [Addr.add]
        rw [hadd] at a0 a1 a2
        simp only at a1 a2
        have i0 : (0 : Int) ≤ (j : Int) := by omega
        have i1 : (j : Int) < (n : Int) := by omega
        have k0 : (0 : Int) ≤ (i : Int) := by omega
        have k1 : (i : Int) < (n : Int) := by omega
        have HBx := Lib.hid (Blk.new wr 34 #[.string x.name, .string x.value, .bool x.never])
        have HA1 := Lib.hid (show Below wr.heap.size wr (wr.alloc (.cells #[.string x.name, .string x.value, .bool x.never] 34)) from (Below.refl _ _).alloc (Nat.le_refl _) _)
        have HD := Lib.hid (del_any br r x (wr.alloc (.cells #[.string x.name, .string x.value, .bool x.never] 34)) (hh.out.2.rule.alloc _))
        obtain ⟨b, hb⟩ : ∃ b, sameT x.name r.name = b := ⟨_, rfl⟩
        rw [hb] at HD
        have HP := Lib.hid hb
        obtain ⟨xn, xv, xb⟩ := x
        simp only at a0 a1 a2 HD HP HBx HA1
        clear hx hb e' hadd
        rcases b with _ | _
        · go_wp2_with fail
          refine HD.out.mono ?_
          rintro e w2 ⟨rfl, g2⟩
          have HG2 := Lib.hid (HA1.out.trans (g2.mono HA1.out.size))
          have HBx2 := Lib.hid (HBx.out.below g2 HBx.out.lt)
          have d0 : w2.cell? ⟨wr.heap.size, 0, none⟩ = some (.string xn) := HBx2.out.cell 0
          have d1 : w2.cell? ⟨wr.heap.size, 1, none⟩ = some (.string xv) := HBx2.out.cell 1
          have d2 : w2.cell? ⟨wr.heap.size, 2, none⟩ = some (.bool xb) := HBx2.out.cell 2
          have HO2 := Lib.hid (hh.out.2.own.below HG2.out)
          obtain ⟨⟨p0, p1, p2⟩, f0, f1, f2⟩ := HO2.out.three i (by rw [hh.out.2.len]; omega)
          have HPut := Lib.hid (HO2.out.put i ⟨xn, xv, xb⟩)
          have HM := Lib.hid (hh.out.2.more hlt HX.out HP.out HG2.out hh.out.1 HG.out HBase.out.2 HPut.out.1 HPut.out.2)
          have HSz := Lib.hid (Nat.le_trans hh.out.1 (Nat.le_trans HG2.out.size HPut.out.2.size))
          clear g2 HBx2 a0 a1 a2 HBx
          go_wp2
          exact ⟨⟨i + 1, j + 1, _, by go_num, by go_num, by omega, by omega, Lib.hid ⟨HSz.out, HM.out⟩⟩, by simp [intOf]; omega⟩
        · go_wp2_with fail
          refine HD.out.mono ?_
          rintro e w2 ⟨rfl, g2⟩
          have HG2 := Lib.hid (HA1.out.trans (g2.mono HA1.out.size))
          have HM := Lib.hid (hh.out.2.less hlt HX.out HP.out HG2.out hh.out.1)
          clear g2 a0 a1 a2 HBx
          go_wp2
          exact ⟨⟨i, j + 1, m, rfl, by go_num, by omega, by omega, Lib.hid ⟨Nat.le_trans hh.out.1 HG2.out.size, HM.out⟩⟩, by simp [intOf]; omega⟩
      · obtain rfl : j = n := by omega
        have hto := cut_to (A := some ⟨g, 0, none⟩) (n := j) (c := c) (k := i) (by omega) HNC.out
        have hon := cut_on (g := g) (n := j) (c := c) (k := i) hij HNC.out
        obtain ⟨w3, hcl, hw3, hg3⟩ := run_clear_h (ty := 0) (c' := c - i) hh.out.2.own hij
        have H3 := Lib.hid (And.intro hw3 (hh.out.2.bel.grown hg3 hh.out.1 (fun k e => by injection e with e; have := HG.out; omega)))
        clear hw3 hg3
        go_wp2
        go_ret
        refine ⟨_, rfl, ?_, H3.out.2⟩
        have := H3.out.1
        rw [hh.out.2.head, List.take_of_length_le (by rw [HL.out]; exact Nat.le_refl _)] at this
        exact this
end Go.Proofs.YthokfopeddaiiaaGreatDoor
