/-
  HeadLess: which of two plain headers stands first, and leaving one out, change nothing of whether a list may be.
-/
import Derived.Test.YtkikcinpgbgbdaaDoorCp
import Derived.Test.YtkikcinpgbgbdaaDoorMo
import Derived.Deep.DeepCutAuto
namespace Go.Proofs.YtkikcinpgbgbdaaDoor
open Go.RowKit Go.Own Go.Own.Hd Go.Own.Fn Go.WideShapes
theorem mod_at (i : Int) (n : Nat) (h0 : 0 < n) (h1 : n ≤ 60) : ∃ J : Nat, J < n ∧ (wrap64 (i.tmod (n : Int) + (n : Int))).tmod (n : Int) = (J : Int) := by
  have a1 := Int.tmod_lt_of_pos i (b := (n : Int)) (by omega)
  have a2 := Int.lt_tmod_of_pos i (b := (n : Int)) (by omega)
  have b0 : 0 ≤ i.tmod n + n := by omega
  have hw : wrap64 (i.tmod (n : Int) + (n : Int)) = i.tmod (n : Int) + (n : Int) := by
    generalize i.tmod (n : Int) = r at *
    unfold wrap64
    omega
  rw [hw]
  have b1 := Int.tmod_nonneg (n : Int) b0
  have b2 := Int.tmod_lt_of_pos (i.tmod n + n) (b := (n : Int)) (by omega)
  exact ⟨((i.tmod n + n).tmod n).toNat, by omega, by omega⟩
theorem hcells_set : ∀ (l : List HdrV) (j : Nat) (x : HdrV), hcells (l.set j x) = (((hcells l).set (j * 3) (.string x.name)).set (j * 3 + 1) (.string x.value)).set (j * 3 + 2) (.bool x.never)
  | [], j, x => by simp [hcells]
  | h :: l, 0, x => by simp [hcells, hcell]
  | h :: l, j + 1, x => by
    have ih := hcells_set l j x
    have e : ∀ (a : HdrV) (m : List HdrV), hcells (a :: m) = hcell a ++ hcells m := fun _ _ => rfl
    rw [List.set_cons_succ, e, e, ih]
    simp only [hcell]
    rw [show (j + 1) * 3 = j * 3 + 3 by omega]
    rfl
/-- A header is stored into a list of one's own. -/
theorem Hw.put {w : World} {base g n c : Nat} {l : List HdrV} (h : Hw w base (.slice (some ⟨g, 0, none⟩) n c) l) (j : Nat) (x : HdrV) :
    Hw (((w.setCell ⟨g, j * 3, none⟩ (.string x.name)).setCell ⟨g, j * 3 + 1, none⟩ (.string x.value)).setCell ⟨g, j * 3 + 2, none⟩ (.bool x.never)) base (.slice (some ⟨g, 0, none⟩) n c) (l.set j x) ∧
      w.grownBy (((w.setCell ⟨g, j * 3, none⟩ (.string x.name)).setCell ⟨g, j * 3 + 1, none⟩ (.string x.value)).setCell ⟨g, j * 3 + 2, none⟩ (.bool x.never)) (some g) := by
  obtain ⟨A', c', e', _⟩ := h.form
  injection e' with _ e1 _
  subst e1
  unfold Hw at h ⊢
  obtain ⟨h1, g1⟩ := World.ownsRow.stored h (j * 3) (.string x.name)
  obtain ⟨h2, g2⟩ := World.ownsRow.stored h1 (j * 3 + 1) (.string x.value)
  obtain ⟨h3, g3⟩ := World.ownsRow.stored h2 (j * 3 + 2) (.bool x.never)
  rw [hcells_set, List.length_set]
  exact ⟨h3, grown_trans (grown_trans g1 g2) g3⟩
/-- l[:k] -/
theorem cut_to {w : World} {A : Option Addr} {n c k : Nat} {l : List HdrV} (hk : k ≤ n) (hc : n ≤ c) :
    ∀ W : World, (Instr.slice 22 (.slice A n c) none (some (.int .i64 (k : Int))) none).run Tryd.prog W = .ok (.slice A k c) W := fun W => by
  obtain ⟨i, hi, hz, h1, h2⟩ := infoH
  simp [Instr.slice, run_underlying Tryd.underlying22, Instr.sliceBounds, run_sliceBound, sizeOf, typeInfo, hi, h1, Result.andThen, show (k : Int) ≤ c by omega]
  intro _
  cases A <;> simp [Addr.add]
theorem Hw.blk {w : World} {base : Nat} {v : Value} {l : List HdrV} (h : Hw w base v l) (hl : 0 < l.length) : ∃ g cap, v = .slice (some ⟨g, 0, none⟩) l.length cap ∧ base ≤ g ∧ g < w.heap.size ∧ l.length ≤ cap := by
  rcases h.2 with ⟨_, h0⟩ | ⟨g, cap, cur, rfl, hb, hg, hn, hm, _⟩
  · omega
  · exact ⟨g, cap, rfl, hb, (h.lt g rfl).2, hn⟩
/-- The three cells of a header of one's own. -/
theorem Hw.three {w : World} {base g n c : Nat} {l : List HdrV} (h : Hw w base (.slice (some ⟨g, 0, none⟩) n c) l) (j : Nat) (hj : j < l.length) :
    (w.cell? ⟨g, j * 3, none⟩ = some (.string l[j].name) ∧ w.cell? ⟨g, j * 3 + 1, none⟩ = some (.string l[j].value) ∧ w.cell? ⟨g, j * 3 + 2, none⟩ = some (.bool l[j].never)) ∧
      (w.frozen? ⟨g, j * 3, none⟩ = false ∧ w.frozen? ⟨g, j * 3 + 1, none⟩ = false ∧ w.frozen? ⟨g, j * 3 + 2, none⟩ = false) := by
  obtain ⟨A', c', e', _⟩ := h.form
  injection e' with _ e1 _
  subst e1
  obtain ⟨q0, q1, q2⟩ := hcells_at l j hj
  exact ⟨⟨(World.ownsRow.cellAt h _ (by omega)).trans q0, (World.ownsRow.cellAt h _ (by omega)).trans q1, (World.ownsRow.cellAt h _ (by omega)).trans q2⟩, World.ownsRow.frozenAt h _, World.ownsRow.frozenAt h _, World.ownsRow.frozenAt h _⟩
theorem colon_at (x : HdrV) (h : x.name.toList.isEmpty = false) : 0 < x.name.size ∧ colonB x = (((x.name.data.toList.getD 0 0).toNat : Int) == 58) := by
  rw [Lib.toList_data] at h
  have hne : tx x.name ≠ [] := fun e => by rw [show x.name.data.toList = [] from e] at h; cases h
  refine ⟨?_, ?_⟩
  · have h9 : x.name.size = x.name.data.toList.length := Lib.size_eq x.name
    have := List.length_pos_iff.2 hne
    rw [h9]; exact this
  · rw [Bool.eq_iff_iff, beq_iff_eq]
    unfold colonB
    rw [decide_eq_true_iff]
    constructor
    · rintro ⟨_, h⟩
      have h : (tx x.name).getD 0 0 = 58 := h
      rw [show x.name.data.toList = tx x.name from rfl, h]; rfl
    · intro h
      refine ⟨hne, UInt8.toNat_inj.1 ?_⟩
      show ((tx x.name).getD 0 0).toNat = 58
      have h : (((tx x.name).getD 0 0).toNat : Int) = 58 := h
      omega
/-- What lasts while the lists are opened. -/
structure LeR (w : World) (A A6 A7 : Option Addr) (n : Nat) (l m s : List HdrV) (W : World) : Prop where
  bel : Below w.heap.size w W
  hl : Hr W A n l
  hm : Hr W A6 n m
  hs : Hr W A7 (n - 1) s
theorem LeR.below {w W W' : World} {A A6 A7 : Option Addr} {n : Nat} {l m s : List HdrV} (h : LeR w A A6 A7 n l m s W) (hb : Below W.heap.size W W') : LeR w A A6 A7 n l m s W' :=
  ⟨h.bel.trans (hb.mono h.bel.size), h.hl.below hb, h.hm.below hb, h.hs.below hb⟩
theorem LeR.alloc {w W : World} {A A6 A7 : Option Addr} {n : Nat} {l m s : List HdrV} (h : LeR w A A6 A7 n l m s W) (o : Obj) : LeR w A A6 A7 n l m s (W.alloc o) := h.below ((Below.refl _ _).alloc (Nat.le_refl _) _)
theorem szs_part {l m : List HdrV} (h : Szs l) (hm : ∀ x ∈ m, x ∈ l) : Szs m := fun x hx => h x (hm x hx)
theorem swap_mem {l : List HdrV} {i k : Nat} (hi : i < l.length) (hk : k < l.length) : ∀ x ∈ swapL l i k hi hk, x ∈ l := by
  intro x hx
  rcases List.mem_or_eq_of_mem_set hx with hx | rfl
  · rcases List.mem_or_eq_of_mem_set hx with hx | rfl
    · exact hx
    · exact List.getElem_mem hk
  · exact List.getElem_mem hi
theorem less_mem {l : List HdrV} {i : Nat} : ∀ x ∈ l.take i ++ l.drop (i + 1), x ∈ l := by
  intro x hx
  rcases List.mem_append.1 hx with hx | hx
  · exact List.mem_of_mem_take hx
  · exact List.mem_of_mem_drop hx
theorem imp_or {a b : Bool} (h : a = true → b = true) : a = false ∨ (a = true ∧ b = true) := by cases a <;> simp_all
set_option maxHeartbeats 8000000 in
set_option maxRecDepth 100000 in
theorem headLess_any (A : Option Addr) (n c : Nat) (l : List HdrV) (i k : Int) (w : World) {e1 e2 e3 : Addr} (he : EnvH w e1 e2 e3) (hn : n ≤ 100000000) (hnc : n ≤ c) (hr : Hr w A n l) (hz : Szs l) :
    Calls Tryd.prog 3 #[.slice A n c, .int .i64 i, .int .i64 k] w (MorePost w) := by
  have HE := Lib.hid he
  have HR := Lib.hid hr
  have HZ := Lib.hid hz
  have HN := Lib.hid (And.intro hn hnc)
  have HLen := Lib.hid hr.1
  clear he hr hz hn hnc
  go_enter Tryd.func3, Tryd.ntmps3
  go_wp2_with fail
  refine (first_any _ HE.out).mono ?_
  rintro e w1 ⟨rfl, g1⟩
  have HB1 := Lib.hid g1
  clear g1
  go_wp2_with fail
  refine (light_any A n c l w1 HN.out.1 (HR.out.below HB1.out) HZ.out).mono ?_
  rintro e w2 ⟨lb, rfl, hlb, q2, rfl⟩
  have HLb := Lib.hid hlb
  have hlbx := HLb.out
  have HB2 := Lib.hid (below_drewN HB1.out q2)
  generalize w1.drewN q2 = w2 at HB2 ⊢
  clear hlb HB1
  rcases lb with _ | _
  · go_wp2
    go_ret
    exact ⟨rfl, HB2.out⟩
  · by_cases hn0 : n = 0
    · subst hn0
      go_wp2
      go_ret
      exact ⟨rfl, HB2.out⟩
    · have hnb : ((n : Int) == 0) = false := by rw [beq_eq_false_iff_ne]; omega
      have HN60 := Lib.hid (hlbx rfl)
      obtain ⟨J, hJ, hmi⟩ := mod_at i n (by omega) HN60.out
      obtain ⟨K, hK, hmk⟩ := mod_at k n (by omega) HN60.out
      go_upto_region 6 with fail
      clear hmi hmk
      obtain ⟨ad, rfl, a0, _, _⟩ := (HR.out.below HB2.out).at_ hJ
      obtain ⟨ad', e', b0, _, _⟩ := (HR.out.below HB2.out).at_ hK
      obtain rfl := Option.some.inj e'
      clear e'
      have hJl : J < l.length := by rw [HLen.out]; exact hJ
      have hKl : K < l.length := by rw [HLen.out]; exact hK
      have ej : l.getD J ⟨⟨#[]⟩, ⟨#[]⟩, false⟩ = l[J] := by simp [List.getD, hJl]
      have ek : l.getD K ⟨⟨#[]⟩, ⟨#[]⟩, false⟩ = l[K] := by simp [List.getD, hKl]
      obtain ⟨x, hx⟩ : ∃ x, l[J] = x := ⟨_, rfl⟩
      obtain ⟨y, hy⟩ : ∃ y, l[K] = y := ⟨_, rfl⟩
      rw [ej, hx] at a0
      rw [ek, hy] at b0
      have HXY := Lib.hid (And.intro hx hy)
      have n60 := HN60.out
      have i0 : (0 : Int) ≤ (J : Int) := by omega
      have i1 : (J : Int) < (n : Int) := by omega
      have k0 : (0 : Int) ≤ (K : Int) := by omega
      have k1 : (K : Int) < (n : Int) := by omega
      have HJK := Lib.hid (And.intro hJl hKl)
      have HJn := Lib.hid (And.intro hJ hK)
      clear ej ek hx hy hlbx HLb hJ hK
      obtain ⟨q, hq⟩ : ∃ q, x.name.toList.isEmpty = q := ⟨_, rfl⟩
      rcases q with _ | _
      · obtain ⟨hs0, hc0⟩ := colon_at x hq
        have hi0 := idx_getD x.name 0 0 rfl hs0
        obtain ⟨y0, hy0⟩ : ∃ y : Int, ((x.name.data.toList.getD 0 0).toNat : Int) = y := ⟨_, rfl⟩
        rw [hy0] at hc0 hi0
        obtain ⟨cb, hcb⟩ : ∃ b, (y0 == 58) = b := ⟨_, rfl⟩
        rw [hcb] at hc0
        have HCx := Lib.hid hc0
        clear hc0 hy0
        rcases cb with _ | _
        · obtain ⟨p, hp⟩ : ∃ q, y.name.toList.isEmpty = q := ⟨_, rfl⟩
          rcases p with _ | _
          · obtain ⟨hs1, hc1⟩ := colon_at y hp
            have hj0 := idx_getD y.name 0 0 rfl hs1
            obtain ⟨y1, hy1⟩ : ∃ y' : Int, ((y.name.data.toList.getD 0 0).toNat : Int) = y' := ⟨_, rfl⟩
            rw [hy1] at hc1 hj0
            obtain ⟨cb, hcb1⟩ : ∃ b, (y1 == 58) = b := ⟨_, rfl⟩
            rw [hcb1] at hc1
            have HCy := Lib.hid hc1
            clear hc1 hy1
            rcases cb with _ | _
            · go_wp2_with fail
              refine (headers_any (some ad) n c l w2 (by omega) (HR.out.below HB2.out)).mono ?_
              rintro e w3 ⟨v3, rfl, hv3⟩
              obtain ⟨g, cm, rfl, hg1, hg2, hcm⟩ := hv3.out.1.blk (by omega)
              rw [HLen.out] at hv3 hcm ⊢
              have HW3 := Lib.hid hv3.out.1
              have HB3 := Lib.hid hv3.out.2
              have HG := Lib.hid (And.intro hg1 (And.intro hg2 hcm))
              obtain ⟨⟨p0, p1, p2⟩, f0, f1, f2⟩ := HW3.out.three J HJK.out.1
              obtain ⟨_, e', d0, d1, d2⟩ := ((HR.out.below HB2.out).below HB3.out).at_ HJn.out.2
              obtain rfl := Option.some.inj e'
              rw [show l.getD K ⟨⟨#[]⟩, ⟨#[]⟩, false⟩ = y by rw [← HXY.out.2]; simp [List.getD, HJK.out.2]] at d0 d1 d2
              clear e' hv3 hg1 hg2 hcm
              go_upto_region 11 with fail
              obtain ⟨hw4, hg4⟩ := HW3.out.put J y
              generalize ((w3.setCell ⟨g, J * 3, none⟩ (.string y.name)).setCell ⟨g, J * 3 + 1, none⟩ (.string y.value)).setCell ⟨g, J * 3 + 2, none⟩ (.bool y.never) = w4 at hw4 hg4 ⊢
              have HW4 := Lib.hid hw4
              have HB4 := Lib.hid (HB3.out.grown hg4 HB3.out.size (fun k e => by injection e with e; have := HG.out.1; omega))
              clear hw4 hg4 p0 p1 p2 f0 f1 f2 d0 d1 d2 HW3 HB3
              obtain ⟨⟨p0, p1, p2⟩, f0, f1, f2⟩ := HW4.out.three K (by rw [List.length_set]; exact HJK.out.2)
              obtain ⟨_, e', d0, d1, d2⟩ := ((HR.out.below HB2.out).below HB4.out).at_ HJn.out.1
              obtain rfl := Option.some.inj e'
              rw [show l.getD J ⟨⟨#[]⟩, ⟨#[]⟩, false⟩ = x by rw [← HXY.out.1]; simp [List.getD, HJK.out.1]] at d0 d1 d2
              clear e'
              go_upto_region 12 with fail
              obtain ⟨hw5, hg5⟩ := HW4.out.put K x
              generalize ((w4.setCell ⟨g, K * 3, none⟩ (.string x.name)).setCell ⟨g, K * 3 + 1, none⟩ (.string x.value)).setCell ⟨g, K * 3 + 2, none⟩ (.bool x.never) = w5 at hw5 hg5 ⊢
              have HW5 := Lib.hid (show Hw w5 w2.heap.size (.slice (some ⟨g, 0, none⟩) n cm) (swapL l J K HJK.out.1 HJK.out.2) by
                unfold swapL
                rw [HXY.out.1, HXY.out.2]
                exact hw5)
              have HB5 := Lib.hid (HB4.out.grown hg5 HB4.out.size (fun k e => by injection e with e; have := HG.out.1; omega))
              clear hw5 hg5 p0 p1 p2 f0 f1 f2 d0 d1 d2 HW4 HB4
              have HR5 := Lib.hid ((HR.out.below HB2.out).below HB5.out)
              obtain ⟨A5, ha5, _, hcut⟩ := cut_h HR5.out (show J + 1 ≤ n from HJn.out.1) HN.out.2
              have HA5 := Lib.hid ha5
              have hto := cut_to (w := w5) (A := some ad) (l := l) (show J ≤ n by have := HJn.out.1; omega) HN.out.2
              have hadd : IntKind.i64.wrap ((J : Int) + 1) = (J : Int) + 1 := IntWalk.i64_in _ (by omega)
              rw [show ((J + 1 : Nat) : Int) = (J : Int) + 1 by omega] at hcut
              have HCp := Lib.hid (fun W (hW : Below w5.heap.size w5 W) => headers_any (some ad) J c (l.take J) W (by have := HJn.out.1; omega) ((HR5.out.below hW).take (by have := HJn.out.1; omega)))
              clear ha5
              go_region_held3 (fun _ => True) (trivial) (first
                | (go_simp; go_at_call 8; refine (HCp.out _ (by exact below_drewN (Below.refl _ _) 1)).mono ?_; rintro e w6 ⟨v6, rfl, hv6⟩; have HW6 := Lib.hid hv6.out.1; have HB6 := Lib.hid (Below.trans (below_drewN (Below.refl w5.heap.size w5) 1) hv6.out.2); clear hv6)
                | (refine step_app2 _ (by rfl) (.tmp 112) (.tmp 116) (by rfl) w5.heap.size v6 (l.take J) (by rfl) HW6.out A5 (n - (J + 1)) (c - (J + 1)) (l.drop (J + 1)) (by rfl) (HA5.out.below HB6.out) (by rw [List.length_take]; have := HJn.out.1; omega) HB6.out.size ?_; intro v7 w7 ho1 ho2 ho3)
                | fail)
              all_goals
                obtain ⟨A7, c7, e7, hc7, _⟩ := ho1.form
                have hl7 : (l.take J ++ l.drop (J + 1)).length = n - 1 := by
                  rw [List.length_append, List.length_take, List.length_drop, HLen.out]; have := HJn.out.1; omega
                rw [hl7] at e7 hc7
                subst e7
                have HB7 := Lib.hid (HB6.out.grown ho2 HB6.out.size (fun k e => by have := (HW6.out.lt k e).1; have : w5.heap.size ≤ w5.drew.heap.size := Nat.le_refl _; omega))
                have HR0 := Lib.hid (show LeR w (some ad) (some ⟨g, 0, none⟩) A7 n l (swapL l J K HJK.out.1 HJK.out.2) (l.take J ++ l.drop (J + 1)) w7 from ⟨HB2.out.trans ((HB5.out.trans (HB7.out.mono HB5.out.size)).mono HB2.out.size), HR5.out.below HB7.out, (HW5.out.below HB7.out).hr, ho1.hr⟩)
                have HZm := Lib.hid (szs_part HZ.out (swap_mem HJK.out.1 HJK.out.2))
                have HZs := Lib.hid (szs_part HZ.out (less_mem (l := l) (i := J)))
                have HC := Lib.hid (And.intro HG.out.2.2 hc7)
                have hD1 : okB rules4 req0 (swapL l J K HJK.out.1 HJK.out.2) = okB rules4 req0 l := swap_same _ _ (by rw [HXY.out.1]; exact HCx.out) (by rw [HXY.out.2]; exact HCy.out)
                have hD2 : okB rules1 0 (swapL l J K HJK.out.1 HJK.out.2) = okB rules1 0 l := swap_same _ _ (by rw [HXY.out.1]; exact HCx.out) (by rw [HXY.out.2]; exact HCy.out)
                have hD3 : (swapL l J K HJK.out.1 HJK.out.2).all plainB = l.all plainB := swap_plain _ _
                have hE1 : okB rules4 req0 l = false ∨ (okB rules4 req0 l = true ∧ okB rules4 req0 (l.take J ++ l.drop (J + 1)) = true) := imp_or fun h => less_ok HJK.out.1 (by rw [HXY.out.1]; exact HCx.out) h
                have hE2 : okB rules1 0 l = false ∨ (okB rules1 0 l = true ∧ okB rules1 0 (l.take J ++ l.drop (J + 1)) = true) := imp_or fun h => less_ok HJK.out.1 (by rw [HXY.out.1]; exact HCx.out) h
                have hE3 : l.all plainB = false ∨ (l.all plainB = true ∧ (l.take J ++ l.drop (J + 1)).all plainB = true) := imp_or less_plain
                generalize swapL l J K HJK.out.1 HJK.out.2 = lm at HR0 HZm hD1 hD2 hD3 HW5
                generalize l.take J ++ l.drop (J + 1) = ls at HR0 HZs hE1 hE2 hE3 ho1 hl7
                have HD := Lib.hid (And.intro hD1 (And.intro hD2 (And.intro hD3 (And.intro hE1 (And.intro hE2 hE3)))))
                clear hD1 hD2 hD3 hE1 hE2 hE3 ho1 ho2 ho3 hl7 hc7 HB7 HB6 HW6 HW5 HB5 HR5 HA5 HCp hcut hto hadd HXY hJl hKl
                have hq := fun b W => run_ev_eq e1 b W
                have hq2 := fun b W => run_ev_ne e1 b W
                have hq3 := fun b x W => run_eg e1 b .eql x W
                have hq4 := fun b x W => run_eg e1 b .neq x W
                go_wp2_with fail
                refine (open_ok (some ad) n c l _ (HE.out.below HR0.out.bel HE.out.room) (by have := HN60.out; omega) HN.out.2 HR0.out.hl HZ.out).mono ?_
                rintro e v0 ⟨a01, a02, a03, a04, A05, n05, c05, rfl, g0⟩
                have HR1 := Lib.hid ((HR0.out.below g0.out).alloc (.cells #[.string a01, .string a02, .string a03, .string a04, .slice A05 n05 c05] 29))
                clear g0 HR0
                go_wp2_with fail
                refine (open_ok (some ⟨g, 0, none⟩) n cm lm _ (HE.out.below HR1.out.bel HE.out.room) (by have := HN60.out; omega) HC.out.1 HR1.out.hm HZm.out).mono ?_
                rintro e v1 ⟨a11, a12, a13, a14, A15, n15, c15, rfl, g1⟩
                have HR2 := Lib.hid ((HR1.out.below g1.out).alloc (.cells #[.string a11, .string a12, .string a13, .string a14, .slice A15 n15 c15] 29))
                clear g1 HR1
                go_wp2_with fail
                refine (open_ok A7 (n - 1) c7 ls _ (HE.out.below HR2.out.bel HE.out.room) (by have := HN60.out; omega) HC.out.2 HR2.out.hs HZs.out).mono ?_
                rintro e v2 ⟨a21, a22, a23, a24, A25, n25, c25, rfl, g2⟩
                have HR3 := Lib.hid ((HR2.out.below g2.out).alloc (.cells #[.string a21, .string a22, .string a23, .string a24, .slice A25 n25 c25] 29))
                clear g2 HR2
                go_wp2_with fail
                refine (ans_ok (some ad) n c l _ (HE.out.below HR3.out.bel HE.out.room) (by have := HN60.out; omega) HN.out.2 HR3.out.hl HZ.out).mono ?_
                rintro e v3 ⟨a31, A35, n35, c35, rfl, g3⟩
                have HR4 := Lib.hid ((HR3.out.below g3.out).alloc (.cells #[.int .i64 a31, .slice A35 n35 c35] 35))
                clear g3 HR3
                go_wp2_with fail
                refine (ans_ok (some ⟨g, 0, none⟩) n cm lm _ (HE.out.below HR4.out.bel HE.out.room) (by have := HN60.out; omega) HC.out.1 HR4.out.hm HZm.out).mono ?_
                rintro e v4 ⟨a41, A45, n45, c45, rfl, g4⟩
                have HR5 := Lib.hid ((HR4.out.below g4.out).alloc (.cells #[.int .i64 a41, .slice A45 n45 c45] 35))
                clear g4 HR4
                go_wp2_with fail
                refine (ans_ok A7 (n - 1) c7 ls _ (HE.out.below HR5.out.bel HE.out.room) (by have := HN60.out; omega) HC.out.2 HR5.out.hs HZs.out).mono ?_
                rintro e v5 ⟨a51, A55, n55, c55, rfl, g5⟩
                have HR6 := Lib.hid ((HR5.out.below g5.out).alloc (.cells #[.int .i64 a51, .slice A55 n55 c55] 35))
                clear g5 HR5
                go_wp2_with fail
                refine (trails_ok (some ad) n c l _ (HE.out.below HR6.out.bel HE.out.room) (by have := HN60.out; omega) HR6.out.hl HZ.out).mono ?_
                rintro e v6 ⟨rfl, g6⟩
                have HR7 := Lib.hid (HR6.out.below g6.out)
                clear g6 HR6
                go_wp2_with fail
                refine (trails_ok (some ⟨g, 0, none⟩) n cm lm _ (HE.out.below HR7.out.bel HE.out.room) (by have := HN60.out; omega) HR7.out.hm HZm.out).mono ?_
                rintro e v7 ⟨rfl, g7⟩
                have HR8 := Lib.hid (HR7.out.below g7.out)
                clear g7 HR7
                go_wp2_with fail
                refine (trails_ok A7 (n - 1) c7 ls _ (HE.out.below HR8.out.bel HE.out.room) (by have := HN60.out; omega) HR8.out.hs HZs.out).mono ?_
                rintro e v8 ⟨rfl, g8⟩
                have HR9 := Lib.hid (HR8.out.below g8.out)
                clear g8 HR8
                obtain ⟨hD1, hD2, hD3, hE1, hE2, hE3⟩ := HD.out
                generalize okB rules4 req0 l = o1 at hD1 hE1 ⊢
                generalize okB rules4 req0 lm = o2 at hD1 ⊢
                generalize okB rules4 req0 ls = o3 at hE1 ⊢
                generalize okB rules1 0 l = o4 at hD2 hE2 ⊢
                generalize okB rules1 0 lm = o5 at hD2 ⊢
                generalize okB rules1 0 ls = o6 at hE2 ⊢
                generalize l.all plainB = o7 at hD3 hE3 ⊢
                generalize lm.all plainB = o8 at hD3 ⊢
                generalize ls.all plainB = o9 at hE3 ⊢
                subst hD1 hD2 hD3
                clear HD
                rcases hE1 with rfl | ⟨rfl, rfl⟩
                all_goals rcases hE2 with rfl | ⟨rfl, rfl⟩
                all_goals rcases hE3 with rfl | ⟨rfl, rfl⟩
                all_goals
                  go_wp2
                  go_quiet (fail)
                  go_wp2
                  go_ret
                  exact ⟨rfl, below_drewN HR9.out.bel _⟩
            · go_wp2
              go_ret
              exact ⟨rfl, HB2.out⟩
          · go_wp2
            go_ret
            exact ⟨rfl, HB2.out⟩
        · go_wp2
          go_ret
          exact ⟨rfl, HB2.out⟩
      · go_wp2
        go_ret
        exact ⟨rfl, HB2.out⟩
end Go.Proofs.YtkikcinpgbgbdaaDoor
