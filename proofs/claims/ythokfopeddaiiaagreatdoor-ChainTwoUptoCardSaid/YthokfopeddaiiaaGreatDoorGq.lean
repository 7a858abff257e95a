/-
  Contracts: head.Get, head.All, slices.Index, Contains of texts, slices.IndexFunc, DeleteFunc of headers; the questions of the kinds Need and Deny; the kind Remove.
-/
import Derived.Test.YthokfopeddaiiaaGreatDoorKnd
import Derived.Test.YthokfopeddaiiaaGreatDoorApl
import Derived.Laws.OwnMore
import Derived.Laws.IdiomCopy
import Derived.Deep.RegionWith
import Derived.Deep.RegionHeld3
namespace Go.Proofs.YthokfopeddaiiaaGreatDoor
open Go.RowKit Go.Own Go.Own.Fn Go.Shelf
attribute [local go_sem] Oper.semAt_some
variable {σ : Type}
def sameT (a b : ByteArray) : Bool := a.toList == b.toList
def remC (r : RuleV) (x : CallV) : CallV := { x with hs := x.hs.filter fun h => !sameT h.name r.name }
def needF (r : RuleV) (x : CallV) : Bool := !(x.hs.any fun h => sameT h.name r.name)
def denyF (r : RuleV) (x : CallV) : Bool := ((x.hs.filter fun h => sameT h.name r.name).map (·.value)).any fun v => sameT r.value v
theorem Hr.at2 {w : World} {A : Option Addr} {n k : Nat} {l : List HdrV} (h : Hr w A n l) (hk : k < n) : ∃ ad x, A = some ad ∧ l[k]? = some x ∧ w.cell? (ad.add (k * 3)) = some (.string x.name) ∧ w.cell? ⟨(ad.add (k * 3)).block, (ad.add (k * 3)).off + 1, none⟩ = some (.string x.value) ∧
    w.cell? ⟨(ad.add (k * 3)).block, (ad.add (k * 3)).off + 2, none⟩ = some (.bool x.never) := by
  have hl := h.1
  have hkl : k < l.length := by omega
  have hc := hcells_at l k hkl
  obtain ⟨ad, e0, _, h0⟩ := h.2 _ _ hc.1
  obtain ⟨ad1, e1, _, h1⟩ := h.2 _ _ hc.2.1
  obtain ⟨ad2, e2, _, h2⟩ := h.2 _ _ hc.2.2
  obtain rfl := Option.some.inj (e0.symm.trans e1)
  obtain rfl := Option.some.inj (e0.symm.trans e2)
  rw [← add_two] at h1 h2
  exact ⟨ad, l[k], e0, List.getElem?_eq_getElem hkl, h0, h1, h2⟩
theorem any_take {α : Type} (l : List α) (p : α → Bool) (k : Nat) (x : α) (hx : l[k]? = some x) (h : (l.take k).any p = false) (hp : p x = false) : (l.take (k + 1)).any p = false := by
  obtain ⟨hk, he⟩ := List.getElem?_eq_some_iff.1 hx
  rw [List.take_succ_eq_append_getElem hk, List.any_append, h, he]
  simp [hp]
theorem any_at {α : Type} (l : List α) (p : α → Bool) (k : Nat) (x : α) (hx : l[k]? = some x) (hp : p x = true) : l.any p = true :=
  List.any_eq_true.2 ⟨x, List.mem_of_getElem? hx, hp⟩
theorem take_at {α : Type} (l : List α) (k : Nat) (x : α) (hx : l[k]? = some x) : l.take (k + 1) = l.take k ++ [x] := by
  obtain ⟨hk, he⟩ := List.getElem?_eq_some_iff.1 hx
  rw [List.take_succ_eq_append_getElem hk, he]
def GetPost (b : Bool) (w : World) (e : Ending) (w' : World) : Prop := ∃ v, e = .returned (.tuple #[.string v, .bool b]) ∧ Below w.heap.size w w'
set_option maxHeartbeats 1000000 in
set_option maxRecDepth 100000 in
theorem get_any (A : Option Addr) (n c : Nat) (l : List HdrV) (nm : ByteArray) (w : World) (hn : n ≤ 1000000000) (hr : Hr w A n l) :
    Calls Tryz.prog 67 #[.slice A n c, .string nm] w (GetPost (l.any fun h => sameT h.name nm) w) := by
  have HR := Lib.hid hr
  obtain ⟨ab, hab⟩ : ∃ b, (l.any fun h => sameT h.name nm) = b := ⟨_, rfl⟩
  have HAb := Lib.hid hab
  rw [hab]
  clear hab
  have HL := Lib.hid hr.1
  clear hr
  go_enter Tryz.func67, Tryz.ntmps67
  go_wp2
  go_loopw [10] (fun i wr => ∃ k : Nat, k ≤ n ∧ i = .int .i64 (k : Int) ∧ Hid (Below w.heap.size w wr ∧ (l.take k).any (fun h => sameT h.name nm) = false)) (fun i _ => n - (intOf i).toNat)
  case atStart => exact ⟨0, by omega, rfl, Lib.hid ⟨Below.refl _ _, by simp⟩⟩
  case round =>
    obtain ⟨k, hk, rfl, hh⟩ := hrel
    by_cases hlt : k < n
    · obtain ⟨ad, x, rfl, hx, a0, a1, a2⟩ := (HR.out.below hh.out.1).at2 hlt
      obtain ⟨b, hb⟩ : ∃ b, (x.name.toList == nm.toList) = b := ⟨_, rfl⟩
      have HX := Lib.hid hx
      have HP := Lib.hid (show sameT x.name nm = b from hb)
      have HB1 := Lib.hid (hh.out.1.alloc hh.out.1.size (.cells #[.string x.name, .string x.value, .bool x.never] 34))
      obtain ⟨xn, xv, xb⟩ := x
      simp only at a0 a1 a2 hb HB1
      have i0 : (0 : Int) ≤ (k : Int) := by omega
      have i1 : (k : Int) < (n : Int) := by omega
      clear hx
      rcases b with _ | _
      · have HN := Lib.hid (any_take l _ k _ HX.out hh.out.2 HP.out)
        go_wp2
        exact ⟨⟨k + 1, hlt, by go_num, Lib.hid ⟨HB1.out, HN.out⟩⟩, by simp [intOf]; omega⟩
      · have HN := Lib.hid (any_at l (fun h => sameT h.name nm) k _ HX.out HP.out)
        go_wp2
        go_ret2
        exact ⟨_, by rw [← HAb.out, HN.out]; rfl, HB1.out⟩
    · obtain rfl : k = n := by omega
      have HN := Lib.hid hh.out.2
      rw [List.take_of_length_le (by rw [HL.out]; exact Nat.le_refl _)] at HN
      go_wp2
      go_ret2
      exact ⟨_, by rw [← HAb.out, HN.out]; rfl, hh.out.1⟩
theorem need_q (k : Nat) (r : RuleV) (hk : k ≤ 1000) : IsQ 66 k r (needF r) := by
  intro w xv x hx
  obtain ⟨hv, bv, rfl, h1, h2, h3, h4⟩ := hx
  obtain ⟨A1, c1, rfl, _⟩ := h1.form
  obtain ⟨A2, c2, rfl⟩ := owSlc h2
  obtain ⟨hb0, hr0⟩ := rule_room w r
  have hb1 : Below w.heap.size w ((w.alloc (ruleB r)).alloc (.cells #[.string x.path, .slice A1 x.hs.length c1, .slice A2 x.body.length c2] 26)) := hb0.alloc hb0.size _
  have HB := Lib.hid hb1
  have HG := Lib.hid (get_any A1 x.hs.length c1 x.hs r.name ((w.alloc (ruleB r)).alloc (.cells #[.string x.path, .slice A1 x.hs.length c1, .slice A2 x.body.length c2] 26)) (by omega) ((Hw.hr h1).below hb1))
  have HQ := Lib.hid (show needF r x = !(x.hs.any fun h => sameT h.name r.name) from rfl)
  generalize (x.hs.any fun h => sameT h.name r.name) = ab at HG HQ
  generalize needF r x = nb at HQ ⊢
  generalize x.hs.length = n1 at HB HG ⊢
  generalize x.body.length = n2 at HB HG ⊢
  generalize x.path = xp at HB HG ⊢
  obtain ⟨p, q, c, d, e, f⟩ := r
  simp only [RuleV.cells] at HB HG ⊢
  clear h1 h2 h3 h4 hb0 hr0 hb1
  go_enter Tryz.func66, Tryz.ntmps66
  go_wp2_with ((with_reducible refine HG.out.mono ?_); rintro e w1 ⟨v, rfl, g1⟩; have G1 := Lib.hid (HB.out.trans (g1.mono HB.out.size)); clear g1)
  go_ret
  exact ⟨by rw [HQ.out]; rfl, G1.out⟩
theorem infoS : ∃ i, Tryz.prog.info? 9 = some i ∧ i.zero = some (.string ⟨#[]⟩) ∧ i.size = 1 ∧ i.bytes = 16 :=
  info_parts (show (Tryz.prog.info? 9).map (fun i => (i.zero, i.size, i.bytes)) = some (some (.string ⟨#[]⟩), 1, 16) by kernel_rfl)
/-- While texts are collected. -/
structure AllJ (w : World) (vs : List ByteArray) (v : Value) (wr : World) : Prop where
  bel : Below w.heap.size w wr
  own : wr.ownsRow w.heap.size 9 1 v vs.length (vs.map Value.string)
def valsOf (nm : ByteArray) (l : List HdrV) : List ByteArray := (l.filter fun h => sameT h.name nm).map (·.value)
theorem vals_yes {nm : ByteArray} {l : List HdrV} {k : Nat} {x : HdrV} (hx : l[k]? = some x) (hp : sameT x.name nm = true) : valsOf nm (l.take (k + 1)) = valsOf nm (l.take k) ++ [x.value] := by
  rw [take_at l k x hx]; unfold valsOf; simp [hp]
theorem vals_no {nm : ByteArray} {l : List HdrV} {k : Nat} {x : HdrV} (hx : l[k]? = some x) (hp : sameT x.name nm = false) : valsOf nm (l.take (k + 1)) = valsOf nm (l.take k) := by
  rw [take_at l k x hx]; unfold valsOf; simp [hp]
theorem vals_len (nm : ByteArray) (l : List HdrV) : (valsOf nm l).length ≤ l.length := by
  unfold valsOf; rw [List.length_map]; exact List.length_filter_le _ _
/-- A slice of texts. -/
def Sr (w : World) (A : Option Addr) (n : Nat) (vs : List ByteArray) : Prop :=
  vs.length = n ∧ ∀ (j : Nat) s, vs[j]? = some s → ∃ ad, A = some ad ∧ ad.block < w.heap.size ∧ w.cell? (ad.add j) = some (.string s)
theorem Sr.below {w w' : World} {A : Option Addr} {n : Nat} {vs : List ByteArray} (h : Sr w A n vs) (hb : Below w.heap.size w w') : Sr w' A n vs :=
  ⟨h.1, fun j s hj => by
    obtain ⟨ad, e, h1, h2⟩ := h.2 j s hj
    exact ⟨ad, e, Nat.lt_of_lt_of_le h1 hb.size, (hb.cell (by rw [add_block]; exact h1)).trans h2⟩⟩
theorem AllJ.sr {w wr : World} {vs : List ByteArray} {v : Value} (h : AllJ w vs v wr) : ∃ A c, v = .slice A vs.length c ∧ Sr wr A vs.length vs := by
  rcases h.own.2 with ⟨rfl, h0⟩ | ⟨g, cap, cur, rfl, hb, hg, hnc, _⟩
  · have : vs = [] := List.eq_nil_of_length_eq_zero h0
    subst this
    exact ⟨none, 0, rfl, rfl, fun j s hj => by simp at hj⟩
  · exact ⟨_, _, rfl, rfl, fun j s hj => ⟨_, rfl, (World.ownsRow.lt h.own g rfl).2, World.ownsRow.cells h.own (g := g) rfl j (.string s) (by rw [List.getElem?_map, hj]; rfl)⟩⟩
set_option maxHeartbeats 1000000 in
set_option maxRecDepth 100000 in
theorem all_any (A : Option Addr) (n c : Nat) (l : List HdrV) (nm : ByteArray) (w : World) (hn : n ≤ 100000) (hr : Hr w A n l) :
    Calls Tryz.prog 71 #[.slice A n c, .string nm] w fun e w' => ∃ v, e = .returned v ∧ AllJ w (valsOf nm l) v w' := by
  have HR := Lib.hid hr
  have HL := Lib.hid hr.1
  clear hr
  obtain ⟨i0, hi, hz0, hz1, hz2⟩ := infoS
  have HI := Lib.hid (And.intro hi (And.intro hz0 (And.intro hz1 hz2)))
  clear hi hz0 hz1 hz2
  go_enter Tryz.func71, Tryz.ntmps71
  go_wp2
  go_loopw [5, 10] (fun v i wr => ∃ k : Nat, k ≤ n ∧ i = .int .i64 (k : Int) ∧ Hid (AllJ w (valsOf nm (l.take k)) v wr)) (fun _ i _ => n - (intOf i).toNat)
  case atStart => exact ⟨0, by omega, rfl, Lib.hid ⟨Below.refl _ _, ⟨rfl, .inl ⟨rfl, rfl⟩⟩⟩⟩
  case round =>
    obtain ⟨k, hk, rfl, hh⟩ := hrel
    by_cases hlt : k < n
    · obtain ⟨ad, x, rfl, hx, a0, a1, a2⟩ := (HR.out.below hh.out.bel).at2 hlt
      obtain ⟨b, hb⟩ : ∃ b, (x.name.toList == nm.toList) = b := ⟨_, rfl⟩
      obtain ⟨A7, c7, rfl, _⟩ := hh.out.sr
      have HX := Lib.hid hx
      have HP := Lib.hid (show sameT x.name nm = b from hb)
      have HB1 := Lib.hid (hh.out.bel.alloc hh.out.bel.size (.cells #[.string x.name, .string x.value, .bool x.never] 34))
      have HJ1 := Lib.hid (World.ownsRow.alloc hh.out.own (.cells #[.string x.name, .string x.value, .bool x.never] 34))
      have HLn := Lib.hid (show (valsOf nm (l.take k)).length ≤ k from Nat.le_trans (vals_len _ _) (by rw [List.length_take]; omega))
      obtain ⟨xn, xv, xb⟩ := x
      simp only at a0 a1 a2 hb HB1 HJ1
      have i0' : (0 : Int) ≤ (k : Int) := by omega
      have i1 : (k : Int) < (n : Int) := by omega
      clear hx
      rcases b with _ | _
      · have HN := Lib.hid (vals_no HX.out HP.out)
        go_wp2
        exact ⟨⟨k + 1, hlt, by go_num, Lib.hid ⟨HB1.out, by rw [HN.out]; exact HJ1.out⟩⟩, by simp [intOf]; omega⟩
      · have HN := Lib.hid (vals_yes HX.out HP.out)
        go_wp2_with (at_builtin
                     refine wpList_append_own_at _ rfl (.tmp 18) (.tmp 21) 101 rfl w.heap.size 9 i0 (.string ⟨#[]⟩) 1 16 Tryz.underlying101 HI.out.1 HI.out.2.1 HI.out.2.2.1 HI.out.2.2.2 rfl (by decide) (.slice A7 (valsOf nm (l.take k)).length c7) (valsOf nm (l.take k)).length _ rfl (World.ownsRow.alloc HJ1.out _) ⟨wr.heap.size + 1, 0, none⟩ 1 1 [.string xv] rfl rfl ?_ ?_ ?_ ?_ ?_ ?_
                     · exact World.news_of_block (by simpa using heap_alloc_new (wr.alloc _) _)
                     · intro u hu
                       rcases List.mem_singleton.1 hu with rfl
                       rfl
                     · have := HLn.out; simp only [maxLen]; omega
                     · have := HLn.out; omega
                     · have := HB1.out.size; simp at this ⊢; omega
                     intro v3 w3 hown hg _ hv
                     have H3 := Lib.hid (show AllJ w (valsOf nm (l.take (k + 1))) v3 w3 from ⟨(HB1.out.alloc HB1.out.size _).grown hg (by have := HB1.out.size; simp at this ⊢; omega) (fun j e => (HJ1.out.lt j e).1), by rw [HN.out, List.length_append, List.map_append]; exact hown⟩)
                     clear hown hg hv)
        exact ⟨⟨k + 1, hlt, by go_num, H3⟩, by simp [intOf]; omega⟩
    · obtain rfl : k = n := by omega
      have HN := Lib.hid hh.out
      rw [List.take_of_length_le (by rw [HL.out]; exact Nat.le_refl _)] at HN
      go_wp2
      go_ret
      exact ⟨_, rfl, HN.out⟩
set_option maxRecDepth 100000 in
theorem index_any (A : Option Addr) (n c : Nat) (vs : List ByteArray) (v : ByteArray) (w : World) (hn : n ≤ 1000000000) (hr : Sr w A n vs) :
    Calls Tryz.prog 97 #[.slice A n c, .string v] w fun e w' => ∃ i : Int, e = .returned (.int .i64 i) ∧ decide (0 ≤ i) = (vs.any fun s => sameT v s) ∧ Below w.heap.size w w' := by
  have HR := Lib.hid hr
  have HL := Lib.hid hr.1
  clear hr
  go_enter Tryz.func97, Tryz.ntmps97
  go_wp2
  go_loopw [8] (fun i wr => ∃ k : Nat, k ≤ n ∧ i = .int .i64 (k : Int) ∧ Hid (Below w.heap.size w wr ∧ (vs.take k).any (fun s => sameT v s) = false)) (fun i _ => n - (intOf i).toNat)
  case atStart => exact ⟨0, by omega, rfl, Lib.hid ⟨Below.refl _ _, by simp⟩⟩
  case round =>
    obtain ⟨k, hk, rfl, hh⟩ := hrel
    by_cases hlt : k < n
    · obtain ⟨s, hs⟩ : ∃ s, vs[k]? = some s := ⟨_, List.getElem?_eq_getElem (by rw [HL.out]; exact hlt)⟩
      obtain ⟨ad, rfl, _, a0⟩ := (HR.out.below hh.out.1).2 k s hs
      obtain ⟨b, hb⟩ : ∃ b, (v.toList == s.toList) = b := ⟨_, rfl⟩
      have HX := Lib.hid hs
      have HP := Lib.hid (show sameT v s = b from hb)
      have i0 : (0 : Int) ≤ (k : Int) := by omega
      have i1 : (k : Int) < (n : Int) := by omega
      clear hs
      rcases b with _ | _
      · have HN := Lib.hid (any_take vs _ k _ HX.out hh.out.2 HP.out)
        go_wp2
        exact ⟨⟨k + 1, hlt, by go_num, Lib.hid ⟨hh.out.1, HN.out⟩⟩, by simp [intOf]; omega⟩
      · have HN := Lib.hid (any_at vs (fun s => sameT v s) k _ HX.out HP.out)
        go_wp2
        go_ret
        exact ⟨_, rfl, by rw [HN.out]; exact decide_eq_true i0, hh.out.1⟩
    · obtain rfl : k = n := by omega
      have HN := Lib.hid hh.out.2
      rw [List.take_of_length_le (by rw [HL.out]; exact Nat.le_refl _)] at HN
      go_wp2
      go_ret
      exact ⟨_, rfl, by rw [HN.out]; rfl, hh.out.1⟩
theorem contains_any (A : Option Addr) (n c : Nat) (vs : List ByteArray) (v : ByteArray) (w : World) (hn : n ≤ 1000000000) (hr : Sr w A n vs) :
    Calls Tryz.prog 70 #[.slice A n c, .string v] w fun e w' => e = .returned (.bool (vs.any fun s => sameT v s)) ∧ Below w.heap.size w w' := by
  have HI := Lib.hid (index_any A n c vs v w hn hr)
  generalize (vs.any fun s => sameT v s) = b at HI ⊢
  clear hr
  go_enter Tryz.func70, Tryz.ntmps70
  go_wp2_with ((with_reducible refine HI.out.mono ?_); rintro e w1 ⟨i, rfl, hi, g1⟩; have G1 := Lib.hid g1; have HB := Lib.hid hi; clear g1 hi)
  go_ret
  exact ⟨by rw [← HB.out]; rfl, G1.out⟩
set_option maxHeartbeats 1000000 in
theorem deny_q (k : Nat) (r : RuleV) (hk : k ≤ 1000) : IsQ 69 k r (denyF r) := by
  intro w xv x hx
  obtain ⟨hv, bv, rfl, h1, h2, h3, h4⟩ := hx
  obtain ⟨A1, c1, rfl, _⟩ := h1.form
  obtain ⟨A2, c2, rfl⟩ := owSlc h2
  obtain ⟨hb0, hr0⟩ := rule_room w r
  have hb1 : Below w.heap.size w ((w.alloc (ruleB r)).alloc (.cells #[.string x.path, .slice A1 x.hs.length c1, .slice A2 x.body.length c2] 26)) := hb0.alloc hb0.size _
  have HB := Lib.hid hb1
  have HK := Lib.hid (hr0.alloc (.cells #[.string x.path, .slice A1 x.hs.length c1, .slice A2 x.body.length c2] 26))
  have hk2 := Blk.new (w.alloc (ruleB r)) 26 #[.string x.path, .slice A1 x.hs.length c1, .slice A2 x.body.length c2]
  rw [show (w.alloc (ruleB r)).heap.size = w.heap.size + 1 by simp] at hk2
  have HK2 := Lib.hid hk2
  have HRr := Lib.hid ((Hw.hr h1).below hb1)
  have HLen := Lib.hid (show x.hs.length ≤ 100000 by omega)
  have HQ := Lib.hid (show denyF r x = ((valsOf r.name x.hs).any fun v => sameT r.value v) from rfl)
  obtain ⟨vs, hvs⟩ : ∃ vs, valsOf r.name x.hs = vs := ⟨_, rfl⟩
  rw [hvs] at HQ
  have HVn := Lib.hid (show vs.length ≤ x.hs.length by rw [← hvs]; exact vals_len _ _)
  have HVs := Lib.hid hvs
  generalize denyF r x = nb at HQ ⊢
  obtain ⟨l1, hl1⟩ : ∃ l, x.hs = l := ⟨_, rfl⟩
  rw [hl1] at HB HK HK2 HRr HVn HLen HVs ⊢
  obtain ⟨n1, hn1⟩ : ∃ n, l1.length = n := ⟨_, rfl⟩
  rw [hn1] at HB HK HK2 HRr HVn HLen ⊢
  generalize x.body.length = n2 at HB HK HK2 HRr ⊢
  generalize x.path = xp at HB HK HK2 HRr ⊢
  clear h1 h2 h3 h4 hb0 hr0 hb1 hk2 hvs hl1 hn1
  obtain ⟨p, q, c, d, e, f⟩ := r
  simp only [RuleV.cells, ruleB] at HB HK HK2 HRr HVs HQ ⊢
  go_enter Tryz.func69, Tryz.ntmps69
  go_wp2_with fail
  generalize (w.alloc _).alloc _ = W0 at HB HK HK2 HRr ⊢
  have HKf := Lib.hid (fun W (hW : Below W0.heap.size W0 W) => (show W.cell? ⟨w.heap.size, 1, none⟩ = some (.string q) ∧ W.cell? ⟨w.heap.size, 2, none⟩ = some (.string c) ∧ W.cell? ⟨w.heap.size + 1, 1, none⟩ = some (.slice A1 n1 c1) from
    ⟨(HK.out.below hW HK.out.lt).cell 1, (HK.out.below hW HK.out.lt).cell 2, (HK2.out.below hW HK2.out.lt).cell 1⟩))
  have HA := Lib.hid (fun W (hW : Below W0.heap.size W0 W) => all_any A1 n1 c1 l1 q W HLen.out (HRr.out.below hW))
  obtain ⟨k0, k1, k2⟩ := HKf.out W0 (Below.refl _ _)
  go_region_held3 (fun w' => w'.cell? ⟨w.heap.size, 1, none⟩ = some (.string q) ∧ w'.cell? ⟨w.heap.size, 2, none⟩ = some (.string c) ∧ w'.cell? ⟨w.heap.size + 1, 1, none⟩ = some (.slice A1 n1 c1)) (first | exact ⟨k0, k1, k2⟩ | exact HKf.out _ HB3.out | exact HKf.out _ HB2.out) (first
    | (go_simp; go_at_call 71; refine (HA.out _ (by exact below_drewN (Below.refl _ _) 1)).mono ?_; rintro e w2 ⟨v2, rfl, g2⟩; rw [HVs.out] at g2; obtain ⟨A3, c3, rfl, hsr⟩ := g2.sr; have HSr := Lib.hid hsr; have HB2 := Lib.hid (Below.trans (below_drewN (Below.refl W0.heap.size W0) 1) g2.bel); clear g2 hsr)
    | (go_simp; go_at_call 70; refine (contains_any A3 vs.length c3 vs c w2 (by have := HVn.out; have := HLen.out; omega) HSr.out).mono ?_; rintro e w3 ⟨rfl, g3⟩; have HB3 := Lib.hid (HB2.out.trans (g3.mono HB2.out.size)); clear g3)
    | fail)
  all_goals
    go_wp2
    go_ret
    exact ⟨by rw [HQ.out]; rfl, HB.out.trans (HB3.out.mono HB.out.size)⟩
end Go.Proofs.YthokfopeddaiiaaGreatDoor
