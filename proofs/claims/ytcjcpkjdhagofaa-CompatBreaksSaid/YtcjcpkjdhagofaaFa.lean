/-
  parleyshelf.Fair.
-/
import Derived.Test.YtcjcpkjdhagofaaFd
import Derived.Test.YtcjcpkjdhagofaaFe
import Derived.Test.YtcjcpkjdhagofaaRs
namespace Go.Own.Cm
open Go Go.RowKit Go.Own
/-- Texts of a schema are no longer than a slice may be. -/
structure SchW (s : SchV) : Prop where
  f : ∀ m ∈ s.ms, ∀ f ∈ m.fs, f.W
  v : ∀ e ∈ s.es, ∀ v ∈ e.vs, v.nm.size ≤ maxLen
/-- What Fair says, as far as it is needed. -/
structure FairQ (s : SchV) : Prop where
  m : s.mn ≤ 20
  e : s.en ≤ 20
  f : ∀ m ∈ s.ms, m.fn ≤ 40
  v : ∀ e ∈ s.es, e.vn ≤ 40
  k : ∀ m ∈ s.ms, ∀ f ∈ m.fs, KindsOk f
theorem all_next {α : Type} {l : List α} {k : Nat} {x : α} {p : α → Prop} (hx : l[k]? = some x) (h : ∀ y ∈ l.take k, p y) (hp : p x) : ∀ y ∈ l.take (k + 1), p y := by
  obtain ⟨hk, he⟩ := List.getElem?_eq_some_iff.1 hx
  rw [List.take_succ_eq_append_getElem hk, he]
  intro y hy
  rcases List.mem_append.1 hy with h1 | h1
  · exact h y h1
  · rw [List.mem_singleton.1 h1]; exact hp
theorem all_end {α : Type} {l : List α} {k : Nat} {p : α → Prop} (hk : l.length ≤ k) (h : ∀ y ∈ l.take k, p y) : ∀ y ∈ l, p y := by
  rw [List.take_of_length_le hk] at h
  exact h
end Go.Own.Cm
namespace Go.Proofs.Ytcjcpkjdhagofaa
open Go.RowKit Go.Own Go.Own.Cm Go.Shelf
attribute [local go_sem] Oper.semAt_some
set_option maxHeartbeats 8000000 in
set_option maxRecDepth 100000 in
theorem fairS_any (s : SchV) (B : Nat) (w : World) (hr : SchR w B s) (hB : B ≤ w.heap.size) (hW : SchW s) :
    Calls Try.prog 16 #[.agg s.cells] w (YesP (FairQ s) w) := by
  have HFM := Lib.hid fun (nm : ByteArray) (hn : s.mn ≤ 20) W' (hb : Below w.heap.size w W') => findMessageR_small s nm B W' (hr.below (hb.mono hB)) hn (Nat.le_trans hB hb.size)
  have HFE := Lib.hid fun (nm : ByteArray) (hn : s.en ≤ 20) W' (hb : Below w.heap.size w W') => findEnumR_small s nm B W' (hr.below (hb.mono hB)) hn (Nat.le_trans hB hb.size)
  have HFF := Lib.hid hr.f
  have HVV := Lib.hid hr.v
  have HQ : Hid (s.mn ≤ 20 → s.en ≤ 20 → (∀ m ∈ s.ms, m.fn ≤ 40 ∧ ∀ f ∈ m.fs, KindsOk f) → (∀ e ∈ s.es, e.vn ≤ 40) → FairQ s) := Lib.hid fun a b c d => ⟨a, b, fun m h => (c m h).1, d, fun m h => (c m h).2⟩
  have HP : Hid (∀ W' e, e = .returned (.bool true) → FairQ s → Below w.heap.size w W' → YesP (FairQ s) w e W') := Lib.hid fun W' e he h hb => YesP.any h true he hb
  have HN : Hid (∀ W' e, e = .returned (.bool false) → Below w.heap.size w W' → YesP (FairQ s) w e W') := Lib.hid fun W' e h hb => YesP.no h hb
  have HWf := Lib.hid hW.f
  have HWv := Lib.hid hW.v
  have HRm := Lib.hid hr.m
  have HRe := Lib.hid hr.e
  have HBs := Lib.hid hB
  clear hr hB hW
  generalize hPP : YesP (FairQ s) w = PP at *
  clear hPP
  generalize hFQ : FairQ s = FQ at *
  clear hFQ
  obtain ⟨mA, mn, mc, ms, eA, en, ec, es, sA, sn, sc, ss⟩ := s
  simp only [SchV.cells] at HFM HFE HFF HVV HQ HWf HWv HRm HRe ⊢
  have HB0 := Lib.hid (show Below w.heap.size w (w.alloc (.cells #[.slice mA mn mc, .slice eA en ec, .slice sA sn sc] 26)) from (Below.refl _ _).alloc (Nat.le_refl _) _)
  have HM0 := Lib.hid (Blk.new w 26 #[.slice mA mn mc, .slice eA en ec, .slice sA sn sc])
  go_enter Try.func16, Try.ntmps16
  go_upto_region 1 with (fail)
  generalize w.alloc (.cells #[.slice mA mn mc, .slice eA en ec, .slice sA sn sc] 26) = w1 at *
  have m0 := HM0.out.cell 0
  have m1 := HM0.out.cell 1
  simp only [List.getElem?_toArray, List.getElem?_cons_zero, List.getElem?_cons_succ] at m0 m1
  by_cases hm20 : (20 : Int) < (mn : Int)
  · go_wp2
    exact HN.out _ _ rfl HB0.out
  by_cases he20 : (20 : Int) < (en : Int)
  · go_wp2
    exact HN.out _ _ rfl HB0.out
  have hm20' : mn ≤ 20 := by omega
  have he20' : en ≤ 20 := by omega
  go_wp2
  clear m0 m1 hm20 he20
  go_loopw [3] (fun i wr => ∃ k : Nat, k ≤ mn ∧ i = .int .i64 (k : Int) ∧ Hid (Below w1.heap.size w1 wr ∧ ∀ m ∈ ms.take k, m.fn ≤ 40 ∧ ∀ f ∈ m.fs, KindsOk f)) (fun i _ => mn - (intOf i).toNat)
  case atStart => exact ⟨0, by omega, rfl, Lib.hid ⟨Below.refl _ _, by simp⟩⟩
  case round =>
    obtain ⟨k, hk, rfl, hh⟩ := hrel
    have HBw := Lib.hid (HB0.out.trans (hh.out.1.mono HB0.out.size))
    have HMw := Lib.hid (HM0.out.below hh.out.1 HM0.out.lt)
    have m0 := HMw.out.cell 0
    simp only [List.getElem?_toArray, List.getElem?_cons_zero, List.getElem?_cons_succ] at m0
    by_cases hlt : k < mn
    · obtain ⟨ad, y, e, hy, b0, b1⟩ := (HRm.out.below (HBw.out.mono HBs.out)).atM hlt
      have e : mA = some ad := e
      subst e
      have HY := Lib.hid hy
      have hym := List.mem_of_getElem? hy
      have HFy := Lib.hid (HFF.out y hym)
      have HWy := Lib.hid (HWf.out y hym)
      have HNx := Lib.hid fun h => all_next (p := fun m : MsgV => m.fn ≤ 40 ∧ ∀ f ∈ m.fs, KindsOk f) hy hh.out.2 h
      clear hy hym
      obtain ⟨nm, fA, fn, fc, fs⟩ := y
      simp only at b0 b1 HFy HWy HNx
      have i0 : (0 : Int) ≤ (k : Int) := by omega
      have i1 : (k : Int) < (mn : Int) := by omega
      go_upto_region 7 with (fail)
      have hB1 : Below w.heap.size w (wr.alloc (.cells #[.string nm, .slice fA fn fc] 45)) := HBw.out.alloc HBw.out.size _
      have hB2 : Below w1.heap.size w1 (wr.alloc (.cells #[.string nm, .slice fA fn fc] 45)) := hh.out.1.alloc hh.out.1.size _
      have hB3 : Below wr.heap.size wr (wr.alloc (.cells #[.string nm, .slice fA fn fc] 45)) := (Below.refl _ _).alloc (Nat.le_refl _) _
      have HB1 := Lib.hid hB1
      have HB2 := Lib.hid hB2
      have HM2 := Lib.hid (HMw.out.below hB3 HMw.out.lt)
      have HV2 := Lib.hid (Blk.new wr 45 #[.string nm, .slice fA fn fc])
      clear hB1 hB2 hB3 b0 b1 HMw m0
      generalize wr.alloc (.cells #[.string nm, .slice fA fn fc] 45) = w2 at *
      have f0 := HV2.out.cell 0
      have f1 := HV2.out.cell 1
      have m0 := HM2.out.cell 0
      have m1 := HM2.out.cell 1
      have m2 := HM2.out.cell 2
      simp only [List.getElem?_toArray, List.getElem?_cons_zero, List.getElem?_cons_succ] at f0 f1 m0 m1 m2
      have HFMw := Lib.hid (HFM.out nm hm20' w2 HB1.out)
      go_cut [46] (fun v wx => (∃ b, v = .bool b ∧ Hid (b = false → fn ≤ 40)) ∧ Hid (Below w2.heap.size w2 wx))
      case first =>
        as_aux_lemma =>
        go_wp2_with (with_reducible refine HFMw.out.mono ?_
                     rintro e w9 ⟨h9, ⟨_, rfl⟩ | ⟨kk, _, _, _, rfl⟩⟩ <;> have HB9 := Lib.hid h9 <;> clear h9)
        all_goals
          go_meet
          refine ⟨⟨_, rfl, Lib.hid ?_⟩, by first | exact HB9 | exact Lib.hid (Below.refl _ _)⟩
          first
            | (intro h; cases h; done)
            | (intro h; omega)
            | (intro h; simp at h; omega)
      case rest =>
        obtain ⟨⟨b, rfl, HF40⟩, HBc⟩ := hcut
        have HB3 := Lib.hid (HB1.out.trans (HBc.out.mono HB1.out.size))
        have HB4 := Lib.hid (HB2.out.trans (HBc.out.mono HB2.out.size))
        have HV3 := Lib.hid (HV2.out.below HBc.out HV2.out.lt)
        clear f0 f1 m0 m1 m2 HFMw HM2 HV2 HBc HB1 HB2
        rcases b with _ | _
        rotate_left
        · go_wp2
          exact HN.out _ _ rfl HB3.out
        have h40 := HF40.out rfl
        clear HF40
        go_wp2
        go_loopw [5] (fun i wr => ∃ j : Nat, j ≤ fn ∧ i = .int .i64 (j : Int) ∧ Hid (Below wc.heap.size wc wr ∧ ∀ f ∈ fs.take j, KindsOk f)) (fun i _ => fn - (intOf i).toNat)
        case atStart => exact ⟨0, by omega, rfl, Lib.hid ⟨Below.refl _ _, by simp⟩⟩
        case round =>
          obtain ⟨j, hj, rfl, hq⟩ := hrel
          have HBq := Lib.hid (HB3.out.trans (hq.out.1.mono HB3.out.size))
          have HVq := Lib.hid (HV3.out.below hq.out.1 HV3.out.lt)
          have f0 := HVq.out.cell 0
          have f1 := HVq.out.cell 1
          simp only [List.getElem?_toArray, List.getElem?_cons_zero, List.getElem?_cons_succ] at f0 f1
          by_cases hjl : j < fn
          · have HFc := Lib.hid (fieldS_any ⟨nm, fA, fn, fc, fs⟩ j B _ (HFy.out.below (HBq.out.mono HBs.out)) (Nat.le_trans HBs.out HBq.out.size) hjl h40 HWy.out)
            obtain ⟨x, hx⟩ : ∃ x, fs[j]? = some x := ⟨_, List.getElem?_eq_getElem (by rw [HFy.out.1]; exact hjl)⟩
            have HX := Lib.hid hx
            clear hx
            simp only [MsgV.cells] at HFc
            have i0 : (0 : Int) ≤ (j : Int) := by omega
            go_wp2_with (with_reducible refine HFc.out.mono ?_
                         rintro e w9 ⟨⟨b, rfl, hb⟩, h9⟩
                         have HB9 := Lib.hid h9
                         have HK9 := Lib.hid hb
                         clear h9 hb)
            · exact HN.out _ _ rfl (HBq.out.trans (HB9.out.mono HBq.out.size))
            · have HKx := Lib.hid (hq.out.1.trans (HB9.out.mono hq.out.1.size))
              have HKn := Lib.hid (all_next HX.out hq.out.2 (HK9.out (by cases b <;> first | rfl | (rename_i h; cases h)) x HX.out))
              exact ⟨⟨j + 1, hjl, by go_num, Lib.hid ⟨HKx.out, HKn.out⟩⟩, by simp [intOf]; omega⟩
          · obtain rfl : j = fn := by omega
            have HKK := Lib.hid (HNx.out ⟨h40, all_end (by rw [HFy.out.1]; exact Nat.le_refl _) hq.out.2⟩)
            have HBz := Lib.hid (HB4.out.trans (hq.out.1.mono HB4.out.size))
            go_wp2
            exact ⟨⟨k + 1, hlt, by go_num, Lib.hid ⟨HBz.out, HKK.out⟩⟩, by simp [intOf]; omega⟩
    · obtain rfl : mn = k := by omega
      have HMS := Lib.hid (all_end (by rw [HRm.out.1]; exact Nat.le_refl _) hh.out.2)
      go_wp2
      clear HRm HFF HWf m0
      have HBa := HBw
      clear HBw hh
      go_loopw [6] (fun i wy => ∃ k : Nat, k ≤ en ∧ i = .int .i64 (k : Int) ∧ Hid (Below wr.heap.size wr wy ∧ ∀ m ∈ es.take k, m.vn ≤ 40)) (fun i _ => en - (intOf i).toNat)
      case atStart => exact ⟨0, by omega, rfl, Lib.hid ⟨Below.refl _ _, by simp⟩⟩
      case round =>
        obtain ⟨k, hk, rfl, hh⟩ := hrel
        have HBx := Lib.hid (HBa.out.trans (hh.out.1.mono HBa.out.size))
        have HMx := Lib.hid (HMw.out.below hh.out.1 HMw.out.lt)
        have m1 := HMx.out.cell 1
        simp only [List.getElem?_toArray, List.getElem?_cons_zero, List.getElem?_cons_succ] at m1
        by_cases hlt : k < en
        · obtain ⟨ad, y, e, hy, b0, b1⟩ := (HRe.out.below (HBx.out.mono HBs.out)).atE hlt
          have e : eA = some ad := e
          subst e
          have hym := List.mem_of_getElem? hy
          have HVy := Lib.hid (HVV.out y hym)
          have HWy := Lib.hid (HWv.out y hym)
          have HNx := Lib.hid fun h => all_next (p := fun m : EnmV => m.vn ≤ 40) hy hh.out.2 h
          have HS17 : Hid (∀ W', Below wr.heap.size wr W' → (W'.cell? ⟨w.heap.size, 0, none⟩ = some (.slice mA mn mc) ∧ W'.cell? ⟨w.heap.size, 1, none⟩ = some (.slice (some ad) en ec) ∧ W'.cell? ⟨w.heap.size, 2, none⟩ = some (.slice sA sn sc)) ∧ (W'.cell? (ad.add (k * 2)) = some (.string y.nm) ∧ W'.cell? ⟨(ad.add (k * 2)).block, (ad.add (k * 2)).off + 1, none⟩ = some (.slice y.vA y.vn y.vc)) ∧ Hid (Below wr.heap.size wr W')) := Lib.hid fun W' hb => by
            have h1 := HMx.out.below hb HMx.out.lt
            have c0 := h1.cell 0
            have c1 := h1.cell 1
            have c2 := h1.cell 2
            simp only [List.getElem?_toArray, List.getElem?_cons_zero, List.getElem?_cons_succ] at c0 c1 c2
            obtain ⟨ad', y', e', hy', d0, d1⟩ := (HRe.out.below ((HBx.out.trans (hb.mono HBx.out.size)).mono HBs.out)).atE hlt
            cases e'
            rw [hy] at hy'
            cases hy'
            exact ⟨⟨c0, c1, c2⟩, ⟨d0, d1⟩, Lib.hid hb⟩
          clear hy hym HRe HVV HWv b0 b1 HMx HMw HM0
          obtain ⟨nm, fA, fn, fc, fs⟩ := y
          simp only at HVy HWy HNx HS17
          have HEE := Lib.hid fun W' (hb : Below wr.heap.size wr W') (hf : fn ≤ 40) => enumS_any ⟨nm, fA, fn, fc, fs⟩ B W' (HVy.out.below ((HBx.out.trans (hb.mono HBx.out.size)).mono HBs.out)) (Nat.le_trans HBs.out (Nat.le_trans HBx.out.size hb.size)) hf HWy.out
          have HFEw := Lib.hid fun W' (hb : Below wr.heap.size wr W') => HFE.out nm he20' W' (HBx.out.trans (hb.mono HBx.out.size))
          simp only [EnmV.cells] at HEE
          have i0 : (0 : Int) ≤ (k : Int) := by omega
          have i1 : (k : Int) < (en : Int) := by omega
          clear HFE HVy HWy HFM HQ HMS HB0 HP
          go_wp2
          clear m1
          refine wp_region_noPanic ?_
          refine wp_region_held_drew (S := (fun W' => (W'.cell? ⟨w.heap.size, 0, none⟩ = some (.slice mA mn mc) ∧ W'.cell? ⟨w.heap.size, 1, none⟩ = some (.slice (some ad) en ec) ∧ W'.cell? ⟨w.heap.size, 2, none⟩ = some (.slice sA sn sc)) ∧ (W'.cell? (ad.add (k * 2)) = some (.string nm) ∧ W'.cell? ⟨(ad.add (k * 2)).block, (ad.add (k * 2)).off + 1, none⟩ = some (.slice fA fn fc)) ∧ Hid (Below wr.heap.size wr W'))) (by kernel_rfl) (HS17.out _ (Below.refl _ _).drew) (fun hHeld => ?_)
          refine wpAnyH_take (i := 0) (oi := { dst := some 65, op := Go.Op.fieldAddr 26 (Go.Operand.tmp 1) 1, type := 0, pos := "shelf.go:27", after := #[], guard := none }) (v := ?_) rfl (by kernel_rfl) (by kernel_rfl) (by kernel_rfl) (fun _ _ _ h => h) (Or.inl ⟨by rfl, ?_⟩) hHeld ?_
          rotate_left
          · intro w hSw; (try dsimp only at hSw); (try go_split_ands); go_simp; (first | done | with_reducible rfl)
          (try simp only [Act.put, List.setIfInBounds_toArray, List.set_cons_zero, List.set_cons_succ])
          refine wpAnyH_take (i := 1) (oi := { dst := some 66, op := Go.Op.load 23 (Go.Operand.tmp 65), type := 23, pos := "shelf.go:27", after := #[{ on := 0, ground := Go.Ground.data }], guard := none }) (v := ?_) rfl (by kernel_rfl) (by kernel_rfl) (by kernel_rfl) (fun _ _ _ h => h) (Or.inl ⟨by rfl, ?_⟩) hHeld ?_
          rotate_left
          · intro w hSw; (try dsimp only at hSw); (try go_split_ands); go_simp; (first | done | with_reducible rfl)
          (try simp only [Act.put, List.setIfInBounds_toArray, List.set_cons_zero, List.set_cons_succ])
          refine wpAnyH_take (i := 2) (oi := { dst := some 67, op := Go.Op.move (Go.Operand.tmp 6), type := 3, pos := "shelf.go:27", after := #[], guard := none }) (v := ?_) rfl (by kernel_rfl) (by kernel_rfl) (by kernel_rfl) (fun _ _ _ h => h) (Or.inl ⟨by rfl, ?_⟩) hHeld ?_
          rotate_left
          · intro w hSw; (try dsimp only at hSw); (try go_split_ands); go_simp; (first | done | with_reducible rfl)
          (try simp only [Act.put, List.setIfInBounds_toArray, List.set_cons_zero, List.set_cons_succ])
          refine wpAnyH_take (i := 3) (oi := { dst := some 68, op := Go.Op.indexAddr 23 (Go.Operand.tmp 66) (Go.Operand.tmp 67), type := 0, pos := "shelf.go:27", after := #[{ on := 1, ground := Go.Ground.data }, { on := 2, ground := Go.Ground.data }], guard := none }) (v := ?_) rfl (by kernel_rfl) (by kernel_rfl) (by kernel_rfl) (fun _ _ _ h => h) (Or.inl ⟨by rfl, ?_⟩) hHeld ?_
          rotate_left
          · intro w hSw; (try dsimp only at hSw); (try go_split_ands); go_simp; (first | done | with_reducible rfl)
          (try simp only [Act.put, List.setIfInBounds_toArray, List.set_cons_zero, List.set_cons_succ])
          refine wpAnyH_take (i := 4) (oi := { dst := some 69, op := Go.Op.fieldAddr 54 (Go.Operand.tmp 68) 0, type := 0, pos := "shelf.go:27", after := #[{ on := 3, ground := Go.Ground.data }], guard := none }) (v := ?_) rfl (by kernel_rfl) (by kernel_rfl) (by kernel_rfl) (fun _ _ _ h => h) (Or.inl ⟨by rfl, ?_⟩) hHeld ?_
          rotate_left
          · intro w hSw; (try dsimp only at hSw); (try go_split_ands); go_simp; (first | done | with_reducible rfl)
          (try simp only [Act.put, List.setIfInBounds_toArray, List.set_cons_zero, List.set_cons_succ])
          refine wpAnyH_take (i := 5) (oi := { dst := some 70, op := Go.Op.load 9 (Go.Operand.tmp 69), type := 9, pos := "shelf.go:27", after := #[{ on := 4, ground := Go.Ground.data }], guard := none }) (v := ?_) rfl (by kernel_rfl) (by kernel_rfl) (by kernel_rfl) (fun _ _ _ h => h) (Or.inl ⟨by rfl, ?_⟩) hHeld ?_
          rotate_left
          · intro w hSw; (try dsimp only at hSw); (try go_split_ands); go_simp; (first | done | with_reducible rfl)
          (try simp only [Act.put, List.setIfInBounds_toArray, List.set_cons_zero, List.set_cons_succ])
          refine wpAnyH_take (i := 6) (oi := { dst := some 71, op := Go.Op.call { callee := Go.Callee.builtin Go.Builtin.len, args := #[Go.Operand.tmp 70], argTypes := #[9] }, type := 3, pos := "shelf.go:27", after := #[{ on := 5, ground := Go.Ground.data }], guard := none }) (v := ?_) rfl (by kernel_rfl) (by kernel_rfl) (by kernel_rfl) (fun _ _ _ h => h) (Or.inl ⟨by rfl, ?_⟩) hHeld ?_
          rotate_left
          · intro w hSw; (try dsimp only at hSw); (try go_split_ands); go_simp; (first | done | with_reducible rfl)
          (try simp only [Act.put, List.setIfInBounds_toArray, List.set_cons_zero, List.set_cons_succ])
          by_cases h7 : 500 < (nm.size : Int)
          · refine wpAnyH_take (i := 7) (oi := { dst := some 72, op := Go.Op.binOp Go.BinOp.gtr 3 (Go.Operand.tmp 71) (Go.Operand.const (Go.Value.int Go.IntKind.i64 500)) 3, type := 4, pos := "shelf.go:27", after := #[{ on := 6, ground := Go.Ground.data }], guard := none }) (v := .bool true) rfl (by kernel_rfl) (by kernel_rfl) (by kernel_rfl) (fun _ _ _ h => h) (Or.inl ⟨by rfl, ?_⟩) hHeld ?_
            · intro w hSw; (try dsimp only at hSw); (try go_split_ands); go_simp; (first | done | with_reducible rfl | (simp <;> omega))
            (try simp only [Act.put, List.setIfInBounds_toArray, List.set_cons_zero, List.set_cons_succ])
            refine wpAnyH_take (i := 8) (oi := { dst := some 73, op := Go.Op.move (Go.Operand.tmp 72), type := 4, pos := "shelf.go:27", after := #[{ on := 7, ground := Go.Ground.data }], guard := none }) (v := ?_) rfl (by kernel_rfl) (by kernel_rfl) (by kernel_rfl) (fun _ _ _ h => h) (Or.inl ⟨by rfl, ?_⟩) hHeld ?_
            rotate_left
            · intro w hSw; (try dsimp only at hSw); (try go_split_ands); go_simp; (first | done | with_reducible rfl)
            (try simp only [Act.put, List.setIfInBounds_toArray, List.set_cons_zero, List.set_cons_succ])
            refine wpAnyH_take (i := 9) (oi := { dst := some 74, op := Go.Op.fieldAddr 26 (Go.Operand.tmp 1) 1, type := 0, pos := "shelf.go:27", after := #[{ on := 8, ground := Go.Ground.guard }], guard := some (8, false) }) (v := undef) rfl (by kernel_rfl) (by kernel_rfl) (by kernel_rfl) (fun _ _ _ h => h) (Or.inr ⟨by rfl, rfl⟩) hHeld ?_
            (try simp only [Act.put, List.setIfInBounds_toArray, List.set_cons_zero, List.set_cons_succ])
            refine wpAnyH_take (i := 10) (oi := { dst := some 75, op := Go.Op.load 23 (Go.Operand.tmp 74), type := 23, pos := "shelf.go:27", after := #[{ on := 9, ground := Go.Ground.data }, { on := 8, ground := Go.Ground.guard }], guard := some (8, false) }) (v := undef) rfl (by kernel_rfl) (by kernel_rfl) (by kernel_rfl) (fun _ _ _ h => h) (Or.inr ⟨by rfl, rfl⟩) hHeld ?_
            (try simp only [Act.put, List.setIfInBounds_toArray, List.set_cons_zero, List.set_cons_succ])
            refine wpAnyH_take (i := 11) (oi := { dst := some 76, op := Go.Op.move (Go.Operand.tmp 6), type := 3, pos := "shelf.go:27", after := #[{ on := 8, ground := Go.Ground.guard }], guard := some (8, false) }) (v := undef) rfl (by kernel_rfl) (by kernel_rfl) (by kernel_rfl) (fun _ _ _ h => h) (Or.inr ⟨by rfl, rfl⟩) hHeld ?_
            (try simp only [Act.put, List.setIfInBounds_toArray, List.set_cons_zero, List.set_cons_succ])
            refine wpAnyH_take (i := 12) (oi := { dst := some 77, op := Go.Op.indexAddr 23 (Go.Operand.tmp 75) (Go.Operand.tmp 76), type := 0, pos := "shelf.go:27", after := #[{ on := 10, ground := Go.Ground.data }, { on := 11, ground := Go.Ground.data }, { on := 8, ground := Go.Ground.guard }], guard := some (8, false) }) (v := undef) rfl (by kernel_rfl) (by kernel_rfl) (by kernel_rfl) (fun _ _ _ h => h) (Or.inr ⟨by rfl, rfl⟩) hHeld ?_
            (try simp only [Act.put, List.setIfInBounds_toArray, List.set_cons_zero, List.set_cons_succ])
            refine wpAnyH_take (i := 13) (oi := { dst := some 78, op := Go.Op.fieldAddr 54 (Go.Operand.tmp 77) 1, type := 0, pos := "shelf.go:27", after := #[{ on := 12, ground := Go.Ground.data }, { on := 8, ground := Go.Ground.guard }], guard := some (8, false) }) (v := undef) rfl (by kernel_rfl) (by kernel_rfl) (by kernel_rfl) (fun _ _ _ h => h) (Or.inr ⟨by rfl, rfl⟩) hHeld ?_
            (try simp only [Act.put, List.setIfInBounds_toArray, List.set_cons_zero, List.set_cons_succ])
            refine wpAnyH_take (i := 14) (oi := { dst := some 79, op := Go.Op.load 52 (Go.Operand.tmp 78), type := 52, pos := "shelf.go:27", after := #[{ on := 13, ground := Go.Ground.data }, { on := 8, ground := Go.Ground.guard }], guard := some (8, false) }) (v := undef) rfl (by kernel_rfl) (by kernel_rfl) (by kernel_rfl) (fun _ _ _ h => h) (Or.inr ⟨by rfl, rfl⟩) hHeld ?_
            (try simp only [Act.put, List.setIfInBounds_toArray, List.set_cons_zero, List.set_cons_succ])
            refine wpAnyH_take (i := 15) (oi := { dst := some 80, op := Go.Op.call { callee := Go.Callee.builtin Go.Builtin.len, args := #[Go.Operand.tmp 79], argTypes := #[52] }, type := 3, pos := "shelf.go:27", after := #[{ on := 14, ground := Go.Ground.data }, { on := 8, ground := Go.Ground.guard }], guard := some (8, false) }) (v := undef) rfl (by kernel_rfl) (by kernel_rfl) (by kernel_rfl) (fun _ _ _ h => h) (Or.inr ⟨by rfl, rfl⟩) hHeld ?_
            (try simp only [Act.put, List.setIfInBounds_toArray, List.set_cons_zero, List.set_cons_succ])
            refine wpAnyH_take (i := 16) (oi := { dst := some 81, op := Go.Op.binOp Go.BinOp.gtr 3 (Go.Operand.tmp 80) (Go.Operand.const (Go.Value.int Go.IntKind.i64 40)) 3, type := 4, pos := "shelf.go:27", after := #[{ on := 15, ground := Go.Ground.data }, { on := 8, ground := Go.Ground.guard }], guard := some (8, false) }) (v := undef) rfl (by kernel_rfl) (by kernel_rfl) (by kernel_rfl) (fun _ _ _ h => h) (Or.inr ⟨by rfl, rfl⟩) hHeld ?_
            (try simp only [Act.put, List.setIfInBounds_toArray, List.set_cons_zero, List.set_cons_succ])
            refine wpAnyH_take (i := 17) (oi := { dst := some 82, op := Go.Op.pick (Go.Operand.tmp 73) (Go.Operand.const (Go.Value.bool true)) (Go.Operand.tmp 81), type := 4, pos := "shelf.go:27", after := #[{ on := 8, ground := Go.Ground.data }, { on := 16, ground := Go.Ground.data }], guard := none }) (v := ?_) rfl (by kernel_rfl) (by kernel_rfl) (by kernel_rfl) (fun _ _ _ h => h) (Or.inl ⟨by rfl, ?_⟩) hHeld ?_
            rotate_left
            · intro w hSw; (try dsimp only at hSw); (try go_split_ands); go_simp; (first | done | with_reducible rfl)
            (try simp only [Act.put, List.setIfInBounds_toArray, List.set_cons_zero, List.set_cons_succ])
            refine wpAnyH_take (i := 18) (oi := { dst := some 83, op := Go.Op.move (Go.Operand.tmp 82), type := 4, pos := "shelf.go:27", after := #[{ on := 17, ground := Go.Ground.data }, { on := 8, ground := Go.Ground.chain }], guard := none }) (v := ?_) rfl (by kernel_rfl) (by kernel_rfl) (by kernel_rfl) (fun _ _ _ h => h) (Or.inl ⟨by rfl, ?_⟩) hHeld ?_
            rotate_left
            · intro w hSw; (try dsimp only at hSw); (try go_split_ands); go_simp; (first | done | with_reducible rfl)
            (try simp only [Act.put, List.setIfInBounds_toArray, List.set_cons_zero, List.set_cons_succ])
            refine wpAnyH_take (i := 19) (oi := { dst := some 84, op := Go.Op.load 26 (Go.Operand.tmp 1), type := 26, pos := "shelf.go:27", after := #[{ on := 18, ground := Go.Ground.guard }], guard := some (18, false) }) (v := undef) rfl (by kernel_rfl) (by kernel_rfl) (by kernel_rfl) (fun _ _ _ h => h) (Or.inr ⟨by rfl, rfl⟩) hHeld ?_
            (try simp only [Act.put, List.setIfInBounds_toArray, List.set_cons_zero, List.set_cons_succ])
            refine wpAnyH_take (i := 20) (oi := { dst := some 85, op := Go.Op.fieldAddr 26 (Go.Operand.tmp 1) 1, type := 0, pos := "shelf.go:27", after := #[{ on := 18, ground := Go.Ground.guard }], guard := some (18, false) }) (v := undef) rfl (by kernel_rfl) (by kernel_rfl) (by kernel_rfl) (fun _ _ _ h => h) (Or.inr ⟨by rfl, rfl⟩) hHeld ?_
            (try simp only [Act.put, List.setIfInBounds_toArray, List.set_cons_zero, List.set_cons_succ])
            refine wpAnyH_take (i := 21) (oi := { dst := some 86, op := Go.Op.load 23 (Go.Operand.tmp 85), type := 23, pos := "shelf.go:27", after := #[{ on := 20, ground := Go.Ground.data }, { on := 18, ground := Go.Ground.guard }], guard := some (18, false) }) (v := undef) rfl (by kernel_rfl) (by kernel_rfl) (by kernel_rfl) (fun _ _ _ h => h) (Or.inr ⟨by rfl, rfl⟩) hHeld ?_
            (try simp only [Act.put, List.setIfInBounds_toArray, List.set_cons_zero, List.set_cons_succ])
            refine wpAnyH_take (i := 22) (oi := { dst := some 87, op := Go.Op.move (Go.Operand.tmp 6), type := 3, pos := "shelf.go:27", after := #[{ on := 18, ground := Go.Ground.guard }], guard := some (18, false) }) (v := undef) rfl (by kernel_rfl) (by kernel_rfl) (by kernel_rfl) (fun _ _ _ h => h) (Or.inr ⟨by rfl, rfl⟩) hHeld ?_
            (try simp only [Act.put, List.setIfInBounds_toArray, List.set_cons_zero, List.set_cons_succ])
            refine wpAnyH_take (i := 23) (oi := { dst := some 88, op := Go.Op.indexAddr 23 (Go.Operand.tmp 86) (Go.Operand.tmp 87), type := 0, pos := "shelf.go:27", after := #[{ on := 21, ground := Go.Ground.data }, { on := 22, ground := Go.Ground.data }, { on := 18, ground := Go.Ground.guard }], guard := some (18, false) }) (v := undef) rfl (by kernel_rfl) (by kernel_rfl) (by kernel_rfl) (fun _ _ _ h => h) (Or.inr ⟨by rfl, rfl⟩) hHeld ?_
            (try simp only [Act.put, List.setIfInBounds_toArray, List.set_cons_zero, List.set_cons_succ])
            refine wpAnyH_take (i := 24) (oi := { dst := some 89, op := Go.Op.fieldAddr 54 (Go.Operand.tmp 88) 0, type := 0, pos := "shelf.go:27", after := #[{ on := 23, ground := Go.Ground.data }, { on := 18, ground := Go.Ground.guard }], guard := some (18, false) }) (v := undef) rfl (by kernel_rfl) (by kernel_rfl) (by kernel_rfl) (fun _ _ _ h => h) (Or.inr ⟨by rfl, rfl⟩) hHeld ?_
            (try simp only [Act.put, List.setIfInBounds_toArray, List.set_cons_zero, List.set_cons_succ])
            refine wpAnyH_take (i := 25) (oi := { dst := some 90, op := Go.Op.load 9 (Go.Operand.tmp 89), type := 9, pos := "shelf.go:27", after := #[{ on := 24, ground := Go.Ground.data }, { on := 18, ground := Go.Ground.guard }], guard := some (18, false) }) (v := undef) rfl (by kernel_rfl) (by kernel_rfl) (by kernel_rfl) (fun _ _ _ h => h) (Or.inr ⟨by rfl, rfl⟩) hHeld ?_
            (try simp only [Act.put, List.setIfInBounds_toArray, List.set_cons_zero, List.set_cons_succ])
            refine wpAnyH_take (i := 26) (oi := { dst := some 91, op := Go.Op.call { callee := Go.Callee.value (Go.Operand.func 18), args := #[Go.Operand.tmp 84, Go.Operand.tmp 90], argTypes := #[26, 9] }, type := 3, pos := "shelf.go:27", after := #[{ on := 19, ground := Go.Ground.data }, { on := 25, ground := Go.Ground.data }, { on := 18, ground := Go.Ground.chain }, { on := 18, ground := Go.Ground.guard }], guard := some (18, false) }) (v := undef) rfl (by kernel_rfl) (by kernel_rfl) (by kernel_rfl) (fun _ _ _ h => h) (Or.inr ⟨by rfl, rfl⟩) hHeld ?_
            (try simp only [Act.put, List.setIfInBounds_toArray, List.set_cons_zero, List.set_cons_succ])
            refine wpAnyH_take (i := 27) (oi := { dst := some 92, op := Go.Op.move (Go.Operand.tmp 6), type := 3, pos := "shelf.go:27", after := #[{ on := 18, ground := Go.Ground.guard }], guard := some (18, false) }) (v := undef) rfl (by kernel_rfl) (by kernel_rfl) (by kernel_rfl) (fun _ _ _ h => h) (Or.inr ⟨by rfl, rfl⟩) hHeld ?_
            (try simp only [Act.put, List.setIfInBounds_toArray, List.set_cons_zero, List.set_cons_succ])
            refine wpAnyH_take (i := 28) (oi := { dst := some 93, op := Go.Op.binOp Go.BinOp.neq 3 (Go.Operand.tmp 91) (Go.Operand.tmp 92) 3, type := 4, pos := "shelf.go:27", after := #[{ on := 26, ground := Go.Ground.data }, { on := 27, ground := Go.Ground.data }, { on := 18, ground := Go.Ground.guard }], guard := some (18, false) }) (v := undef) rfl (by kernel_rfl) (by kernel_rfl) (by kernel_rfl) (fun _ _ _ h => h) (Or.inr ⟨by rfl, rfl⟩) hHeld ?_
            (try simp only [Act.put, List.setIfInBounds_toArray, List.set_cons_zero, List.set_cons_succ])
            refine wpAnyH_take (i := 29) (oi := { dst := some 94, op := Go.Op.pick (Go.Operand.tmp 83) (Go.Operand.const (Go.Value.bool true)) (Go.Operand.tmp 93), type := 4, pos := "shelf.go:27", after := #[{ on := 18, ground := Go.Ground.data }, { on := 28, ground := Go.Ground.data }], guard := none }) (v := ?_) rfl (by kernel_rfl) (by kernel_rfl) (by kernel_rfl) (fun _ _ _ h => h) (Or.inl ⟨by rfl, ?_⟩) hHeld ?_
            rotate_left
            · intro w hSw; (try dsimp only at hSw); (try go_split_ands); go_simp; (first | done | with_reducible rfl)
            (try simp only [Act.put, List.setIfInBounds_toArray, List.set_cons_zero, List.set_cons_succ])
            refine wpAnyH_take (i := 30) (oi := { dst := some 95, op := Go.Op.move (Go.Operand.tmp 94), type := 4, pos := "shelf.go:27", after := #[{ on := 29, ground := Go.Ground.data }, { on := 26, ground := Go.Ground.chain }], guard := none }) (v := ?_) rfl (by kernel_rfl) (by kernel_rfl) (by kernel_rfl) (fun _ _ _ h => h) (Or.inl ⟨by rfl, ?_⟩) hHeld ?_
            rotate_left
            · intro w hSw; (try dsimp only at hSw); (try go_split_ands); go_simp; (first | done | with_reducible rfl)
            (try simp only [Act.put, List.setIfInBounds_toArray, List.set_cons_zero, List.set_cons_succ])
            refine wpAnyH_take (i := 31) (oi := { dst := some 96, op := Go.Op.fieldAddr 26 (Go.Operand.tmp 1) 1, type := 0, pos := "shelf.go:27", after := #[{ on := 30, ground := Go.Ground.guard }], guard := some (30, false) }) (v := undef) rfl (by kernel_rfl) (by kernel_rfl) (by kernel_rfl) (fun _ _ _ h => h) (Or.inr ⟨by rfl, rfl⟩) hHeld ?_
            (try simp only [Act.put, List.setIfInBounds_toArray, List.set_cons_zero, List.set_cons_succ])
            refine wpAnyH_take (i := 32) (oi := { dst := some 97, op := Go.Op.load 23 (Go.Operand.tmp 96), type := 23, pos := "shelf.go:27", after := #[{ on := 31, ground := Go.Ground.data }, { on := 30, ground := Go.Ground.guard }], guard := some (30, false) }) (v := undef) rfl (by kernel_rfl) (by kernel_rfl) (by kernel_rfl) (fun _ _ _ h => h) (Or.inr ⟨by rfl, rfl⟩) hHeld ?_
            (try simp only [Act.put, List.setIfInBounds_toArray, List.set_cons_zero, List.set_cons_succ])
            refine wpAnyH_take (i := 33) (oi := { dst := some 98, op := Go.Op.move (Go.Operand.tmp 6), type := 3, pos := "shelf.go:27", after := #[{ on := 30, ground := Go.Ground.guard }], guard := some (30, false) }) (v := undef) rfl (by kernel_rfl) (by kernel_rfl) (by kernel_rfl) (fun _ _ _ h => h) (Or.inr ⟨by rfl, rfl⟩) hHeld ?_
            (try simp only [Act.put, List.setIfInBounds_toArray, List.set_cons_zero, List.set_cons_succ])
            refine wpAnyH_take (i := 34) (oi := { dst := some 99, op := Go.Op.indexAddr 23 (Go.Operand.tmp 97) (Go.Operand.tmp 98), type := 0, pos := "shelf.go:27", after := #[{ on := 32, ground := Go.Ground.data }, { on := 33, ground := Go.Ground.data }, { on := 30, ground := Go.Ground.guard }], guard := some (30, false) }) (v := undef) rfl (by kernel_rfl) (by kernel_rfl) (by kernel_rfl) (fun _ _ _ h => h) (Or.inr ⟨by rfl, rfl⟩) hHeld ?_
            (try simp only [Act.put, List.setIfInBounds_toArray, List.set_cons_zero, List.set_cons_succ])
            refine wpAnyH_take (i := 35) (oi := { dst := some 100, op := Go.Op.load 54 (Go.Operand.tmp 99), type := 54, pos := "shelf.go:27", after := #[{ on := 34, ground := Go.Ground.data }, { on := 30, ground := Go.Ground.guard }], guard := some (30, false) }) (v := undef) rfl (by kernel_rfl) (by kernel_rfl) (by kernel_rfl) (fun _ _ _ h => h) (Or.inr ⟨by rfl, rfl⟩) hHeld ?_
            (try simp only [Act.put, List.setIfInBounds_toArray, List.set_cons_zero, List.set_cons_succ])
            refine wpAnyH_take (i := 36) (oi := { dst := some 101, op := Go.Op.call { callee := Go.Callee.value (Go.Operand.func 30), args := #[Go.Operand.tmp 100], argTypes := #[54] }, type := 4, pos := "shelf.go:27", after := #[{ on := 35, ground := Go.Ground.data }, { on := 30, ground := Go.Ground.chain }, { on := 30, ground := Go.Ground.guard }], guard := some (30, false) }) (v := undef) rfl (by kernel_rfl) (by kernel_rfl) (by kernel_rfl) (fun _ _ _ h => h) (Or.inr ⟨by rfl, rfl⟩) hHeld ?_
            (try simp only [Act.put, List.setIfInBounds_toArray, List.set_cons_zero, List.set_cons_succ])
            refine wpAnyH_take (i := 37) (oi := { dst := some 102, op := Go.Op.unOp Go.UnOp.not 4 (Go.Operand.tmp 101), type := 4, pos := "shelf.go:27", after := #[{ on := 36, ground := Go.Ground.data }, { on := 30, ground := Go.Ground.guard }], guard := some (30, false) }) (v := undef) rfl (by kernel_rfl) (by kernel_rfl) (by kernel_rfl) (fun _ _ _ h => h) (Or.inr ⟨by rfl, rfl⟩) hHeld ?_
            (try simp only [Act.put, List.setIfInBounds_toArray, List.set_cons_zero, List.set_cons_succ])
            refine wpAnyH_take (i := 38) (oi := { dst := some 103, op := Go.Op.pick (Go.Operand.tmp 95) (Go.Operand.const (Go.Value.bool true)) (Go.Operand.tmp 102), type := 4, pos := "shelf.go:27", after := #[{ on := 30, ground := Go.Ground.data }, { on := 37, ground := Go.Ground.data }], guard := none }) (v := ?_) rfl (by kernel_rfl) (by kernel_rfl) (by kernel_rfl) (fun _ _ _ h => h) (Or.inl ⟨by rfl, ?_⟩) hHeld ?_
            rotate_left
            · intro w hSw; (try dsimp only at hSw); (try go_split_ands); go_simp; (first | done | with_reducible rfl)
            (try simp only [Act.put, List.setIfInBounds_toArray, List.set_cons_zero, List.set_cons_succ])
            refine wpAnyH_done (by kernel_rfl) ?_ _
            refine NoPanic.normal ?_
            have HL9 := Lib.hid (HBx.out.trans (hHeld.2.2.out.mono HBx.out.size))
            have HL8 := Lib.hid (hh.out.1.trans (hHeld.2.2.out.mono hh.out.1.size))
            clear hHeld
            go_wp2_with fail
            exact HN.out _ _ rfl HL9.out
          · refine wpAnyH_take (i := 7) (oi := { dst := some 72, op := Go.Op.binOp Go.BinOp.gtr 3 (Go.Operand.tmp 71) (Go.Operand.const (Go.Value.int Go.IntKind.i64 500)) 3, type := 4, pos := "shelf.go:27", after := #[{ on := 6, ground := Go.Ground.data }], guard := none }) (v := .bool false) rfl (by kernel_rfl) (by kernel_rfl) (by kernel_rfl) (fun _ _ _ h => h) (Or.inl ⟨by rfl, ?_⟩) hHeld ?_
            · intro w hSw; (try dsimp only at hSw); (try go_split_ands); go_simp; (first | done | with_reducible rfl | (simp <;> omega))
            (try simp only [Act.put, List.setIfInBounds_toArray, List.set_cons_zero, List.set_cons_succ])
            refine wpAnyH_take (i := 8) (oi := { dst := some 73, op := Go.Op.move (Go.Operand.tmp 72), type := 4, pos := "shelf.go:27", after := #[{ on := 7, ground := Go.Ground.data }], guard := none }) (v := ?_) rfl (by kernel_rfl) (by kernel_rfl) (by kernel_rfl) (fun _ _ _ h => h) (Or.inl ⟨by rfl, ?_⟩) hHeld ?_
            rotate_left
            · intro w hSw; (try dsimp only at hSw); (try go_split_ands); go_simp; (first | done | with_reducible rfl)
            (try simp only [Act.put, List.setIfInBounds_toArray, List.set_cons_zero, List.set_cons_succ])
            refine wpAnyH_take (i := 9) (oi := { dst := some 74, op := Go.Op.fieldAddr 26 (Go.Operand.tmp 1) 1, type := 0, pos := "shelf.go:27", after := #[{ on := 8, ground := Go.Ground.guard }], guard := some (8, false) }) (v := ?_) rfl (by kernel_rfl) (by kernel_rfl) (by kernel_rfl) (fun _ _ _ h => h) (Or.inl ⟨by rfl, ?_⟩) hHeld ?_
            rotate_left
            · intro w hSw; (try dsimp only at hSw); (try go_split_ands); go_simp; (first | done | with_reducible rfl)
            (try simp only [Act.put, List.setIfInBounds_toArray, List.set_cons_zero, List.set_cons_succ])
            refine wpAnyH_take (i := 10) (oi := { dst := some 75, op := Go.Op.load 23 (Go.Operand.tmp 74), type := 23, pos := "shelf.go:27", after := #[{ on := 9, ground := Go.Ground.data }, { on := 8, ground := Go.Ground.guard }], guard := some (8, false) }) (v := ?_) rfl (by kernel_rfl) (by kernel_rfl) (by kernel_rfl) (fun _ _ _ h => h) (Or.inl ⟨by rfl, ?_⟩) hHeld ?_
            rotate_left
            · intro w hSw; (try dsimp only at hSw); (try go_split_ands); go_simp; (first | done | with_reducible rfl)
            (try simp only [Act.put, List.setIfInBounds_toArray, List.set_cons_zero, List.set_cons_succ])
            refine wpAnyH_take (i := 11) (oi := { dst := some 76, op := Go.Op.move (Go.Operand.tmp 6), type := 3, pos := "shelf.go:27", after := #[{ on := 8, ground := Go.Ground.guard }], guard := some (8, false) }) (v := ?_) rfl (by kernel_rfl) (by kernel_rfl) (by kernel_rfl) (fun _ _ _ h => h) (Or.inl ⟨by rfl, ?_⟩) hHeld ?_
            rotate_left
            · intro w hSw; (try dsimp only at hSw); (try go_split_ands); go_simp; (first | done | with_reducible rfl)
            (try simp only [Act.put, List.setIfInBounds_toArray, List.set_cons_zero, List.set_cons_succ])
            refine wpAnyH_take (i := 12) (oi := { dst := some 77, op := Go.Op.indexAddr 23 (Go.Operand.tmp 75) (Go.Operand.tmp 76), type := 0, pos := "shelf.go:27", after := #[{ on := 10, ground := Go.Ground.data }, { on := 11, ground := Go.Ground.data }, { on := 8, ground := Go.Ground.guard }], guard := some (8, false) }) (v := ?_) rfl (by kernel_rfl) (by kernel_rfl) (by kernel_rfl) (fun _ _ _ h => h) (Or.inl ⟨by rfl, ?_⟩) hHeld ?_
            rotate_left
            · intro w hSw; (try dsimp only at hSw); (try go_split_ands); go_simp; (first | done | with_reducible rfl)
            (try simp only [Act.put, List.setIfInBounds_toArray, List.set_cons_zero, List.set_cons_succ])
            refine wpAnyH_take (i := 13) (oi := { dst := some 78, op := Go.Op.fieldAddr 54 (Go.Operand.tmp 77) 1, type := 0, pos := "shelf.go:27", after := #[{ on := 12, ground := Go.Ground.data }, { on := 8, ground := Go.Ground.guard }], guard := some (8, false) }) (v := ?_) rfl (by kernel_rfl) (by kernel_rfl) (by kernel_rfl) (fun _ _ _ h => h) (Or.inl ⟨by rfl, ?_⟩) hHeld ?_
            rotate_left
            · intro w hSw; (try dsimp only at hSw); (try go_split_ands); go_simp; (first | done | with_reducible rfl)
            (try simp only [Act.put, List.setIfInBounds_toArray, List.set_cons_zero, List.set_cons_succ])
            refine wpAnyH_take (i := 14) (oi := { dst := some 79, op := Go.Op.load 52 (Go.Operand.tmp 78), type := 52, pos := "shelf.go:27", after := #[{ on := 13, ground := Go.Ground.data }, { on := 8, ground := Go.Ground.guard }], guard := some (8, false) }) (v := ?_) rfl (by kernel_rfl) (by kernel_rfl) (by kernel_rfl) (fun _ _ _ h => h) (Or.inl ⟨by rfl, ?_⟩) hHeld ?_
            rotate_left
            · intro w hSw; (try dsimp only at hSw); (try go_split_ands); go_simp; (first | done | with_reducible rfl)
            (try simp only [Act.put, List.setIfInBounds_toArray, List.set_cons_zero, List.set_cons_succ])
            refine wpAnyH_take (i := 15) (oi := { dst := some 80, op := Go.Op.call { callee := Go.Callee.builtin Go.Builtin.len, args := #[Go.Operand.tmp 79], argTypes := #[52] }, type := 3, pos := "shelf.go:27", after := #[{ on := 14, ground := Go.Ground.data }, { on := 8, ground := Go.Ground.guard }], guard := some (8, false) }) (v := ?_) rfl (by kernel_rfl) (by kernel_rfl) (by kernel_rfl) (fun _ _ _ h => h) (Or.inl ⟨by rfl, ?_⟩) hHeld ?_
            rotate_left
            · intro w hSw; (try dsimp only at hSw); (try go_split_ands); go_simp; (first | done | with_reducible rfl)
            (try simp only [Act.put, List.setIfInBounds_toArray, List.set_cons_zero, List.set_cons_succ])
            by_cases h16 : 40 < (fn : Int)
            · refine wpAnyH_take (i := 16) (oi := { dst := some 81, op := Go.Op.binOp Go.BinOp.gtr 3 (Go.Operand.tmp 80) (Go.Operand.const (Go.Value.int Go.IntKind.i64 40)) 3, type := 4, pos := "shelf.go:27", after := #[{ on := 15, ground := Go.Ground.data }, { on := 8, ground := Go.Ground.guard }], guard := some (8, false) }) (v := .bool true) rfl (by kernel_rfl) (by kernel_rfl) (by kernel_rfl) (fun _ _ _ h => h) (Or.inl ⟨by rfl, ?_⟩) hHeld ?_
              · intro w hSw; (try dsimp only at hSw); (try go_split_ands); go_simp; (first | done | with_reducible rfl | (simp <;> omega))
              (try simp only [Act.put, List.setIfInBounds_toArray, List.set_cons_zero, List.set_cons_succ])
              refine wpAnyH_take (i := 17) (oi := { dst := some 82, op := Go.Op.pick (Go.Operand.tmp 73) (Go.Operand.const (Go.Value.bool true)) (Go.Operand.tmp 81), type := 4, pos := "shelf.go:27", after := #[{ on := 8, ground := Go.Ground.data }, { on := 16, ground := Go.Ground.data }], guard := none }) (v := ?_) rfl (by kernel_rfl) (by kernel_rfl) (by kernel_rfl) (fun _ _ _ h => h) (Or.inl ⟨by rfl, ?_⟩) hHeld ?_
              rotate_left
              · intro w hSw; (try dsimp only at hSw); (try go_split_ands); go_simp; (first | done | with_reducible rfl)
              (try simp only [Act.put, List.setIfInBounds_toArray, List.set_cons_zero, List.set_cons_succ])
              refine wpAnyH_take (i := 18) (oi := { dst := some 83, op := Go.Op.move (Go.Operand.tmp 82), type := 4, pos := "shelf.go:27", after := #[{ on := 17, ground := Go.Ground.data }, { on := 8, ground := Go.Ground.chain }], guard := none }) (v := ?_) rfl (by kernel_rfl) (by kernel_rfl) (by kernel_rfl) (fun _ _ _ h => h) (Or.inl ⟨by rfl, ?_⟩) hHeld ?_
              rotate_left
              · intro w hSw; (try dsimp only at hSw); (try go_split_ands); go_simp; (first | done | with_reducible rfl)
              (try simp only [Act.put, List.setIfInBounds_toArray, List.set_cons_zero, List.set_cons_succ])
              refine wpAnyH_take (i := 19) (oi := { dst := some 84, op := Go.Op.load 26 (Go.Operand.tmp 1), type := 26, pos := "shelf.go:27", after := #[{ on := 18, ground := Go.Ground.guard }], guard := some (18, false) }) (v := undef) rfl (by kernel_rfl) (by kernel_rfl) (by kernel_rfl) (fun _ _ _ h => h) (Or.inr ⟨by rfl, rfl⟩) hHeld ?_
              (try simp only [Act.put, List.setIfInBounds_toArray, List.set_cons_zero, List.set_cons_succ])
              refine wpAnyH_take (i := 20) (oi := { dst := some 85, op := Go.Op.fieldAddr 26 (Go.Operand.tmp 1) 1, type := 0, pos := "shelf.go:27", after := #[{ on := 18, ground := Go.Ground.guard }], guard := some (18, false) }) (v := undef) rfl (by kernel_rfl) (by kernel_rfl) (by kernel_rfl) (fun _ _ _ h => h) (Or.inr ⟨by rfl, rfl⟩) hHeld ?_
              (try simp only [Act.put, List.setIfInBounds_toArray, List.set_cons_zero, List.set_cons_succ])
              refine wpAnyH_take (i := 21) (oi := { dst := some 86, op := Go.Op.load 23 (Go.Operand.tmp 85), type := 23, pos := "shelf.go:27", after := #[{ on := 20, ground := Go.Ground.data }, { on := 18, ground := Go.Ground.guard }], guard := some (18, false) }) (v := undef) rfl (by kernel_rfl) (by kernel_rfl) (by kernel_rfl) (fun _ _ _ h => h) (Or.inr ⟨by rfl, rfl⟩) hHeld ?_
              (try simp only [Act.put, List.setIfInBounds_toArray, List.set_cons_zero, List.set_cons_succ])
              refine wpAnyH_take (i := 22) (oi := { dst := some 87, op := Go.Op.move (Go.Operand.tmp 6), type := 3, pos := "shelf.go:27", after := #[{ on := 18, ground := Go.Ground.guard }], guard := some (18, false) }) (v := undef) rfl (by kernel_rfl) (by kernel_rfl) (by kernel_rfl) (fun _ _ _ h => h) (Or.inr ⟨by rfl, rfl⟩) hHeld ?_
              (try simp only [Act.put, List.setIfInBounds_toArray, List.set_cons_zero, List.set_cons_succ])
              refine wpAnyH_take (i := 23) (oi := { dst := some 88, op := Go.Op.indexAddr 23 (Go.Operand.tmp 86) (Go.Operand.tmp 87), type := 0, pos := "shelf.go:27", after := #[{ on := 21, ground := Go.Ground.data }, { on := 22, ground := Go.Ground.data }, { on := 18, ground := Go.Ground.guard }], guard := some (18, false) }) (v := undef) rfl (by kernel_rfl) (by kernel_rfl) (by kernel_rfl) (fun _ _ _ h => h) (Or.inr ⟨by rfl, rfl⟩) hHeld ?_
              (try simp only [Act.put, List.setIfInBounds_toArray, List.set_cons_zero, List.set_cons_succ])
              refine wpAnyH_take (i := 24) (oi := { dst := some 89, op := Go.Op.fieldAddr 54 (Go.Operand.tmp 88) 0, type := 0, pos := "shelf.go:27", after := #[{ on := 23, ground := Go.Ground.data }, { on := 18, ground := Go.Ground.guard }], guard := some (18, false) }) (v := undef) rfl (by kernel_rfl) (by kernel_rfl) (by kernel_rfl) (fun _ _ _ h => h) (Or.inr ⟨by rfl, rfl⟩) hHeld ?_
              (try simp only [Act.put, List.setIfInBounds_toArray, List.set_cons_zero, List.set_cons_succ])
              refine wpAnyH_take (i := 25) (oi := { dst := some 90, op := Go.Op.load 9 (Go.Operand.tmp 89), type := 9, pos := "shelf.go:27", after := #[{ on := 24, ground := Go.Ground.data }, { on := 18, ground := Go.Ground.guard }], guard := some (18, false) }) (v := undef) rfl (by kernel_rfl) (by kernel_rfl) (by kernel_rfl) (fun _ _ _ h => h) (Or.inr ⟨by rfl, rfl⟩) hHeld ?_
              (try simp only [Act.put, List.setIfInBounds_toArray, List.set_cons_zero, List.set_cons_succ])
              refine wpAnyH_take (i := 26) (oi := { dst := some 91, op := Go.Op.call { callee := Go.Callee.value (Go.Operand.func 18), args := #[Go.Operand.tmp 84, Go.Operand.tmp 90], argTypes := #[26, 9] }, type := 3, pos := "shelf.go:27", after := #[{ on := 19, ground := Go.Ground.data }, { on := 25, ground := Go.Ground.data }, { on := 18, ground := Go.Ground.chain }, { on := 18, ground := Go.Ground.guard }], guard := some (18, false) }) (v := undef) rfl (by kernel_rfl) (by kernel_rfl) (by kernel_rfl) (fun _ _ _ h => h) (Or.inr ⟨by rfl, rfl⟩) hHeld ?_
              (try simp only [Act.put, List.setIfInBounds_toArray, List.set_cons_zero, List.set_cons_succ])
              refine wpAnyH_take (i := 27) (oi := { dst := some 92, op := Go.Op.move (Go.Operand.tmp 6), type := 3, pos := "shelf.go:27", after := #[{ on := 18, ground := Go.Ground.guard }], guard := some (18, false) }) (v := undef) rfl (by kernel_rfl) (by kernel_rfl) (by kernel_rfl) (fun _ _ _ h => h) (Or.inr ⟨by rfl, rfl⟩) hHeld ?_
              (try simp only [Act.put, List.setIfInBounds_toArray, List.set_cons_zero, List.set_cons_succ])
              refine wpAnyH_take (i := 28) (oi := { dst := some 93, op := Go.Op.binOp Go.BinOp.neq 3 (Go.Operand.tmp 91) (Go.Operand.tmp 92) 3, type := 4, pos := "shelf.go:27", after := #[{ on := 26, ground := Go.Ground.data }, { on := 27, ground := Go.Ground.data }, { on := 18, ground := Go.Ground.guard }], guard := some (18, false) }) (v := undef) rfl (by kernel_rfl) (by kernel_rfl) (by kernel_rfl) (fun _ _ _ h => h) (Or.inr ⟨by rfl, rfl⟩) hHeld ?_
              (try simp only [Act.put, List.setIfInBounds_toArray, List.set_cons_zero, List.set_cons_succ])
              refine wpAnyH_take (i := 29) (oi := { dst := some 94, op := Go.Op.pick (Go.Operand.tmp 83) (Go.Operand.const (Go.Value.bool true)) (Go.Operand.tmp 93), type := 4, pos := "shelf.go:27", after := #[{ on := 18, ground := Go.Ground.data }, { on := 28, ground := Go.Ground.data }], guard := none }) (v := ?_) rfl (by kernel_rfl) (by kernel_rfl) (by kernel_rfl) (fun _ _ _ h => h) (Or.inl ⟨by rfl, ?_⟩) hHeld ?_
              rotate_left
              · intro w hSw; (try dsimp only at hSw); (try go_split_ands); go_simp; (first | done | with_reducible rfl)
              (try simp only [Act.put, List.setIfInBounds_toArray, List.set_cons_zero, List.set_cons_succ])
              refine wpAnyH_take (i := 30) (oi := { dst := some 95, op := Go.Op.move (Go.Operand.tmp 94), type := 4, pos := "shelf.go:27", after := #[{ on := 29, ground := Go.Ground.data }, { on := 26, ground := Go.Ground.chain }], guard := none }) (v := ?_) rfl (by kernel_rfl) (by kernel_rfl) (by kernel_rfl) (fun _ _ _ h => h) (Or.inl ⟨by rfl, ?_⟩) hHeld ?_
              rotate_left
              · intro w hSw; (try dsimp only at hSw); (try go_split_ands); go_simp; (first | done | with_reducible rfl)
              (try simp only [Act.put, List.setIfInBounds_toArray, List.set_cons_zero, List.set_cons_succ])
              refine wpAnyH_take (i := 31) (oi := { dst := some 96, op := Go.Op.fieldAddr 26 (Go.Operand.tmp 1) 1, type := 0, pos := "shelf.go:27", after := #[{ on := 30, ground := Go.Ground.guard }], guard := some (30, false) }) (v := undef) rfl (by kernel_rfl) (by kernel_rfl) (by kernel_rfl) (fun _ _ _ h => h) (Or.inr ⟨by rfl, rfl⟩) hHeld ?_
              (try simp only [Act.put, List.setIfInBounds_toArray, List.set_cons_zero, List.set_cons_succ])
              refine wpAnyH_take (i := 32) (oi := { dst := some 97, op := Go.Op.load 23 (Go.Operand.tmp 96), type := 23, pos := "shelf.go:27", after := #[{ on := 31, ground := Go.Ground.data }, { on := 30, ground := Go.Ground.guard }], guard := some (30, false) }) (v := undef) rfl (by kernel_rfl) (by kernel_rfl) (by kernel_rfl) (fun _ _ _ h => h) (Or.inr ⟨by rfl, rfl⟩) hHeld ?_
              (try simp only [Act.put, List.setIfInBounds_toArray, List.set_cons_zero, List.set_cons_succ])
              refine wpAnyH_take (i := 33) (oi := { dst := some 98, op := Go.Op.move (Go.Operand.tmp 6), type := 3, pos := "shelf.go:27", after := #[{ on := 30, ground := Go.Ground.guard }], guard := some (30, false) }) (v := undef) rfl (by kernel_rfl) (by kernel_rfl) (by kernel_rfl) (fun _ _ _ h => h) (Or.inr ⟨by rfl, rfl⟩) hHeld ?_
              (try simp only [Act.put, List.setIfInBounds_toArray, List.set_cons_zero, List.set_cons_succ])
              refine wpAnyH_take (i := 34) (oi := { dst := some 99, op := Go.Op.indexAddr 23 (Go.Operand.tmp 97) (Go.Operand.tmp 98), type := 0, pos := "shelf.go:27", after := #[{ on := 32, ground := Go.Ground.data }, { on := 33, ground := Go.Ground.data }, { on := 30, ground := Go.Ground.guard }], guard := some (30, false) }) (v := undef) rfl (by kernel_rfl) (by kernel_rfl) (by kernel_rfl) (fun _ _ _ h => h) (Or.inr ⟨by rfl, rfl⟩) hHeld ?_
              (try simp only [Act.put, List.setIfInBounds_toArray, List.set_cons_zero, List.set_cons_succ])
              refine wpAnyH_take (i := 35) (oi := { dst := some 100, op := Go.Op.load 54 (Go.Operand.tmp 99), type := 54, pos := "shelf.go:27", after := #[{ on := 34, ground := Go.Ground.data }, { on := 30, ground := Go.Ground.guard }], guard := some (30, false) }) (v := undef) rfl (by kernel_rfl) (by kernel_rfl) (by kernel_rfl) (fun _ _ _ h => h) (Or.inr ⟨by rfl, rfl⟩) hHeld ?_
              (try simp only [Act.put, List.setIfInBounds_toArray, List.set_cons_zero, List.set_cons_succ])
              refine wpAnyH_take (i := 36) (oi := { dst := some 101, op := Go.Op.call { callee := Go.Callee.value (Go.Operand.func 30), args := #[Go.Operand.tmp 100], argTypes := #[54] }, type := 4, pos := "shelf.go:27", after := #[{ on := 35, ground := Go.Ground.data }, { on := 30, ground := Go.Ground.chain }, { on := 30, ground := Go.Ground.guard }], guard := some (30, false) }) (v := undef) rfl (by kernel_rfl) (by kernel_rfl) (by kernel_rfl) (fun _ _ _ h => h) (Or.inr ⟨by rfl, rfl⟩) hHeld ?_
              (try simp only [Act.put, List.setIfInBounds_toArray, List.set_cons_zero, List.set_cons_succ])
              refine wpAnyH_take (i := 37) (oi := { dst := some 102, op := Go.Op.unOp Go.UnOp.not 4 (Go.Operand.tmp 101), type := 4, pos := "shelf.go:27", after := #[{ on := 36, ground := Go.Ground.data }, { on := 30, ground := Go.Ground.guard }], guard := some (30, false) }) (v := undef) rfl (by kernel_rfl) (by kernel_rfl) (by kernel_rfl) (fun _ _ _ h => h) (Or.inr ⟨by rfl, rfl⟩) hHeld ?_
              (try simp only [Act.put, List.setIfInBounds_toArray, List.set_cons_zero, List.set_cons_succ])
              refine wpAnyH_take (i := 38) (oi := { dst := some 103, op := Go.Op.pick (Go.Operand.tmp 95) (Go.Operand.const (Go.Value.bool true)) (Go.Operand.tmp 102), type := 4, pos := "shelf.go:27", after := #[{ on := 30, ground := Go.Ground.data }, { on := 37, ground := Go.Ground.data }], guard := none }) (v := ?_) rfl (by kernel_rfl) (by kernel_rfl) (by kernel_rfl) (fun _ _ _ h => h) (Or.inl ⟨by rfl, ?_⟩) hHeld ?_
              rotate_left
              · intro w hSw; (try dsimp only at hSw); (try go_split_ands); go_simp; (first | done | with_reducible rfl)
              (try simp only [Act.put, List.setIfInBounds_toArray, List.set_cons_zero, List.set_cons_succ])
              refine wpAnyH_done (by kernel_rfl) ?_ _
              refine NoPanic.normal ?_
              have HL9 := Lib.hid (HBx.out.trans (hHeld.2.2.out.mono HBx.out.size))
              have HL8 := Lib.hid (hh.out.1.trans (hHeld.2.2.out.mono hh.out.1.size))
              clear hHeld
              go_wp2_with fail
              exact HN.out _ _ rfl HL9.out
            · refine wpAnyH_take (i := 16) (oi := { dst := some 81, op := Go.Op.binOp Go.BinOp.gtr 3 (Go.Operand.tmp 80) (Go.Operand.const (Go.Value.int Go.IntKind.i64 40)) 3, type := 4, pos := "shelf.go:27", after := #[{ on := 15, ground := Go.Ground.data }, { on := 8, ground := Go.Ground.guard }], guard := some (8, false) }) (v := .bool false) rfl (by kernel_rfl) (by kernel_rfl) (by kernel_rfl) (fun _ _ _ h => h) (Or.inl ⟨by rfl, ?_⟩) hHeld ?_
              · intro w hSw; (try dsimp only at hSw); (try go_split_ands); go_simp; (first | done | with_reducible rfl | (simp <;> omega))
              (try simp only [Act.put, List.setIfInBounds_toArray, List.set_cons_zero, List.set_cons_succ])
              refine wpAnyH_take (i := 17) (oi := { dst := some 82, op := Go.Op.pick (Go.Operand.tmp 73) (Go.Operand.const (Go.Value.bool true)) (Go.Operand.tmp 81), type := 4, pos := "shelf.go:27", after := #[{ on := 8, ground := Go.Ground.data }, { on := 16, ground := Go.Ground.data }], guard := none }) (v := ?_) rfl (by kernel_rfl) (by kernel_rfl) (by kernel_rfl) (fun _ _ _ h => h) (Or.inl ⟨by rfl, ?_⟩) hHeld ?_
              rotate_left
              · intro w hSw; (try dsimp only at hSw); (try go_split_ands); go_simp; (first | done | with_reducible rfl)
              (try simp only [Act.put, List.setIfInBounds_toArray, List.set_cons_zero, List.set_cons_succ])
              refine wpAnyH_take (i := 18) (oi := { dst := some 83, op := Go.Op.move (Go.Operand.tmp 82), type := 4, pos := "shelf.go:27", after := #[{ on := 17, ground := Go.Ground.data }, { on := 8, ground := Go.Ground.chain }], guard := none }) (v := ?_) rfl (by kernel_rfl) (by kernel_rfl) (by kernel_rfl) (fun _ _ _ h => h) (Or.inl ⟨by rfl, ?_⟩) hHeld ?_
              rotate_left
              · intro w hSw; (try dsimp only at hSw); (try go_split_ands); go_simp; (first | done | with_reducible rfl)
              (try simp only [Act.put, List.setIfInBounds_toArray, List.set_cons_zero, List.set_cons_succ])
              refine wpAnyH_take (i := 19) (oi := { dst := some 84, op := Go.Op.load 26 (Go.Operand.tmp 1), type := 26, pos := "shelf.go:27", after := #[{ on := 18, ground := Go.Ground.guard }], guard := some (18, false) }) (v := ?_) rfl (by kernel_rfl) (by kernel_rfl) (by kernel_rfl) (fun _ _ _ h => h) (Or.inl ⟨by rfl, ?_⟩) hHeld ?_
              rotate_left
              · intro w hSw; (try dsimp only at hSw); (try go_split_ands); go_simp; (first | done | with_reducible rfl)
              (try simp only [Act.put, List.setIfInBounds_toArray, List.set_cons_zero, List.set_cons_succ])
              refine wpAnyH_take (i := 20) (oi := { dst := some 85, op := Go.Op.fieldAddr 26 (Go.Operand.tmp 1) 1, type := 0, pos := "shelf.go:27", after := #[{ on := 18, ground := Go.Ground.guard }], guard := some (18, false) }) (v := ?_) rfl (by kernel_rfl) (by kernel_rfl) (by kernel_rfl) (fun _ _ _ h => h) (Or.inl ⟨by rfl, ?_⟩) hHeld ?_
              rotate_left
              · intro w hSw; (try dsimp only at hSw); (try go_split_ands); go_simp; (first | done | with_reducible rfl)
              (try simp only [Act.put, List.setIfInBounds_toArray, List.set_cons_zero, List.set_cons_succ])
              refine wpAnyH_take (i := 21) (oi := { dst := some 86, op := Go.Op.load 23 (Go.Operand.tmp 85), type := 23, pos := "shelf.go:27", after := #[{ on := 20, ground := Go.Ground.data }, { on := 18, ground := Go.Ground.guard }], guard := some (18, false) }) (v := ?_) rfl (by kernel_rfl) (by kernel_rfl) (by kernel_rfl) (fun _ _ _ h => h) (Or.inl ⟨by rfl, ?_⟩) hHeld ?_
              rotate_left
              · intro w hSw; (try dsimp only at hSw); (try go_split_ands); go_simp; (first | done | with_reducible rfl)
              (try simp only [Act.put, List.setIfInBounds_toArray, List.set_cons_zero, List.set_cons_succ])
              refine wpAnyH_take (i := 22) (oi := { dst := some 87, op := Go.Op.move (Go.Operand.tmp 6), type := 3, pos := "shelf.go:27", after := #[{ on := 18, ground := Go.Ground.guard }], guard := some (18, false) }) (v := ?_) rfl (by kernel_rfl) (by kernel_rfl) (by kernel_rfl) (fun _ _ _ h => h) (Or.inl ⟨by rfl, ?_⟩) hHeld ?_
              rotate_left
              · intro w hSw; (try dsimp only at hSw); (try go_split_ands); go_simp; (first | done | with_reducible rfl)
              (try simp only [Act.put, List.setIfInBounds_toArray, List.set_cons_zero, List.set_cons_succ])
              refine wpAnyH_take (i := 23) (oi := { dst := some 88, op := Go.Op.indexAddr 23 (Go.Operand.tmp 86) (Go.Operand.tmp 87), type := 0, pos := "shelf.go:27", after := #[{ on := 21, ground := Go.Ground.data }, { on := 22, ground := Go.Ground.data }, { on := 18, ground := Go.Ground.guard }], guard := some (18, false) }) (v := ?_) rfl (by kernel_rfl) (by kernel_rfl) (by kernel_rfl) (fun _ _ _ h => h) (Or.inl ⟨by rfl, ?_⟩) hHeld ?_
              rotate_left
              · intro w hSw; (try dsimp only at hSw); (try go_split_ands); go_simp; (first | done | with_reducible rfl)
              (try simp only [Act.put, List.setIfInBounds_toArray, List.set_cons_zero, List.set_cons_succ])
              refine wpAnyH_take (i := 24) (oi := { dst := some 89, op := Go.Op.fieldAddr 54 (Go.Operand.tmp 88) 0, type := 0, pos := "shelf.go:27", after := #[{ on := 23, ground := Go.Ground.data }, { on := 18, ground := Go.Ground.guard }], guard := some (18, false) }) (v := ?_) rfl (by kernel_rfl) (by kernel_rfl) (by kernel_rfl) (fun _ _ _ h => h) (Or.inl ⟨by rfl, ?_⟩) hHeld ?_
              rotate_left
              · intro w hSw; (try dsimp only at hSw); (try go_split_ands); go_simp; (first | done | with_reducible rfl)
              (try simp only [Act.put, List.setIfInBounds_toArray, List.set_cons_zero, List.set_cons_succ])
              refine wpAnyH_take (i := 25) (oi := { dst := some 90, op := Go.Op.load 9 (Go.Operand.tmp 89), type := 9, pos := "shelf.go:27", after := #[{ on := 24, ground := Go.Ground.data }, { on := 18, ground := Go.Ground.guard }], guard := some (18, false) }) (v := ?_) rfl (by kernel_rfl) (by kernel_rfl) (by kernel_rfl) (fun _ _ _ h => h) (Or.inl ⟨by rfl, ?_⟩) hHeld ?_
              rotate_left
              · intro w hSw; (try dsimp only at hSw); (try go_split_ands); go_simp; (first | done | with_reducible rfl)
              (try simp only [Act.put, List.setIfInBounds_toArray, List.set_cons_zero, List.set_cons_succ])
              refine wpAnyH_take (i := 27) (oi := { dst := some 92, op := Go.Op.move (Go.Operand.tmp 6), type := 3, pos := "shelf.go:27", after := #[{ on := 18, ground := Go.Ground.guard }], guard := some (18, false) }) (v := ?_) rfl (by kernel_rfl) (by kernel_rfl) (by kernel_rfl) (fun _ _ _ h => h) (Or.inl ⟨by rfl, ?_⟩) hHeld ?_
              rotate_left
              · intro w hSw; (try dsimp only at hSw); (try go_split_ands); go_simp; (first | done | with_reducible rfl)
              (try simp only [Act.put, List.setIfInBounds_toArray, List.set_cons_zero, List.set_cons_succ])
              refine wpAnyH_ready (rs := [26]) (by kernel_rfl) (by simp) ?_
              refine AllReadyH.cons (o := { dst := some 91, op := Go.Op.call { callee := Go.Callee.value (Go.Operand.func 18), args := #[Go.Operand.tmp 84, Go.Operand.tmp 90], argTypes := #[26, 9] }, type := 3, pos := "shelf.go:27", after := #[{ on := 19, ground := Go.Ground.data }, { on := 25, ground := Go.Ground.data }, { on := 18, ground := Go.Ground.chain }, { on := 18, ground := Go.Ground.guard }], guard := some (18, false) }) rfl (fun K hK => ?_) AllReadyH.nil
              go_simp
              have HL := hHeld.2.2
              refine (HFEw.out _ HL.out).mono ?_
              rintro e w9 ⟨h9, hi⟩
              obtain ⟨i9, rfl⟩ : ∃ i : Int, e = .returned (.int .i64 i) := by rcases hi with ⟨_, rfl⟩ | ⟨_, _, _, _, rfl⟩ <;> exact ⟨_, rfl⟩
              have HL9 := Lib.hid (HL.out.trans (h9.mono HL.out.size))
              clear hi h9 HL
              refine hK.out _ _ (HS17.out _ HL9.out) (fun hHeld2 => ?_)
              clear hHeld
              have hHeld := hHeld2
              clear hHeld2 hK K
              (try simp only [Act.put, List.setIfInBounds_toArray, List.set_cons_zero, List.set_cons_succ])
              by_cases h28 : ¬ i9 = (k : Int)
              · refine wpAnyH_take (i := 28) (oi := { dst := some 93, op := Go.Op.binOp Go.BinOp.neq 3 (Go.Operand.tmp 91) (Go.Operand.tmp 92) 3, type := 4, pos := "shelf.go:27", after := #[{ on := 26, ground := Go.Ground.data }, { on := 27, ground := Go.Ground.data }, { on := 18, ground := Go.Ground.guard }], guard := some (18, false) }) (v := .bool true) rfl (by kernel_rfl) (by kernel_rfl) (by kernel_rfl) (fun _ _ _ h => h) (Or.inl ⟨by rfl, ?_⟩) hHeld ?_
                · intro w hSw; (try dsimp only at hSw); (try go_split_ands); go_simp; (first | done | with_reducible rfl | (first | (simp <;> omega) | omega))
                (try simp only [Act.put, List.setIfInBounds_toArray, List.set_cons_zero, List.set_cons_succ])
                refine wpAnyH_take (i := 29) (oi := { dst := some 94, op := Go.Op.pick (Go.Operand.tmp 83) (Go.Operand.const (Go.Value.bool true)) (Go.Operand.tmp 93), type := 4, pos := "shelf.go:27", after := #[{ on := 18, ground := Go.Ground.data }, { on := 28, ground := Go.Ground.data }], guard := none }) (v := ?_) rfl (by kernel_rfl) (by kernel_rfl) (by kernel_rfl) (fun _ _ _ h => h) (Or.inl ⟨by rfl, ?_⟩) hHeld ?_
                rotate_left
                · intro w hSw; (try dsimp only at hSw); (try go_split_ands); go_simp; (first | done | with_reducible rfl)
                (try simp only [Act.put, List.setIfInBounds_toArray, List.set_cons_zero, List.set_cons_succ])
                refine wpAnyH_take (i := 30) (oi := { dst := some 95, op := Go.Op.move (Go.Operand.tmp 94), type := 4, pos := "shelf.go:27", after := #[{ on := 29, ground := Go.Ground.data }, { on := 26, ground := Go.Ground.chain }], guard := none }) (v := ?_) rfl (by kernel_rfl) (by kernel_rfl) (by kernel_rfl) (fun _ _ _ h => h) (Or.inl ⟨by rfl, ?_⟩) hHeld ?_
                rotate_left
                · intro w hSw; (try dsimp only at hSw); (try go_split_ands); go_simp; (first | done | with_reducible rfl)
                (try simp only [Act.put, List.setIfInBounds_toArray, List.set_cons_zero, List.set_cons_succ])
                refine wpAnyH_take (i := 31) (oi := { dst := some 96, op := Go.Op.fieldAddr 26 (Go.Operand.tmp 1) 1, type := 0, pos := "shelf.go:27", after := #[{ on := 30, ground := Go.Ground.guard }], guard := some (30, false) }) (v := undef) rfl (by kernel_rfl) (by kernel_rfl) (by kernel_rfl) (fun _ _ _ h => h) (Or.inr ⟨by rfl, rfl⟩) hHeld ?_
                (try simp only [Act.put, List.setIfInBounds_toArray, List.set_cons_zero, List.set_cons_succ])
                refine wpAnyH_take (i := 32) (oi := { dst := some 97, op := Go.Op.load 23 (Go.Operand.tmp 96), type := 23, pos := "shelf.go:27", after := #[{ on := 31, ground := Go.Ground.data }, { on := 30, ground := Go.Ground.guard }], guard := some (30, false) }) (v := undef) rfl (by kernel_rfl) (by kernel_rfl) (by kernel_rfl) (fun _ _ _ h => h) (Or.inr ⟨by rfl, rfl⟩) hHeld ?_
                (try simp only [Act.put, List.setIfInBounds_toArray, List.set_cons_zero, List.set_cons_succ])
                refine wpAnyH_take (i := 33) (oi := { dst := some 98, op := Go.Op.move (Go.Operand.tmp 6), type := 3, pos := "shelf.go:27", after := #[{ on := 30, ground := Go.Ground.guard }], guard := some (30, false) }) (v := undef) rfl (by kernel_rfl) (by kernel_rfl) (by kernel_rfl) (fun _ _ _ h => h) (Or.inr ⟨by rfl, rfl⟩) hHeld ?_
                (try simp only [Act.put, List.setIfInBounds_toArray, List.set_cons_zero, List.set_cons_succ])
                refine wpAnyH_take (i := 34) (oi := { dst := some 99, op := Go.Op.indexAddr 23 (Go.Operand.tmp 97) (Go.Operand.tmp 98), type := 0, pos := "shelf.go:27", after := #[{ on := 32, ground := Go.Ground.data }, { on := 33, ground := Go.Ground.data }, { on := 30, ground := Go.Ground.guard }], guard := some (30, false) }) (v := undef) rfl (by kernel_rfl) (by kernel_rfl) (by kernel_rfl) (fun _ _ _ h => h) (Or.inr ⟨by rfl, rfl⟩) hHeld ?_
                (try simp only [Act.put, List.setIfInBounds_toArray, List.set_cons_zero, List.set_cons_succ])
                refine wpAnyH_take (i := 35) (oi := { dst := some 100, op := Go.Op.load 54 (Go.Operand.tmp 99), type := 54, pos := "shelf.go:27", after := #[{ on := 34, ground := Go.Ground.data }, { on := 30, ground := Go.Ground.guard }], guard := some (30, false) }) (v := undef) rfl (by kernel_rfl) (by kernel_rfl) (by kernel_rfl) (fun _ _ _ h => h) (Or.inr ⟨by rfl, rfl⟩) hHeld ?_
                (try simp only [Act.put, List.setIfInBounds_toArray, List.set_cons_zero, List.set_cons_succ])
                refine wpAnyH_take (i := 36) (oi := { dst := some 101, op := Go.Op.call { callee := Go.Callee.value (Go.Operand.func 30), args := #[Go.Operand.tmp 100], argTypes := #[54] }, type := 4, pos := "shelf.go:27", after := #[{ on := 35, ground := Go.Ground.data }, { on := 30, ground := Go.Ground.chain }, { on := 30, ground := Go.Ground.guard }], guard := some (30, false) }) (v := undef) rfl (by kernel_rfl) (by kernel_rfl) (by kernel_rfl) (fun _ _ _ h => h) (Or.inr ⟨by rfl, rfl⟩) hHeld ?_
                (try simp only [Act.put, List.setIfInBounds_toArray, List.set_cons_zero, List.set_cons_succ])
                refine wpAnyH_take (i := 37) (oi := { dst := some 102, op := Go.Op.unOp Go.UnOp.not 4 (Go.Operand.tmp 101), type := 4, pos := "shelf.go:27", after := #[{ on := 36, ground := Go.Ground.data }, { on := 30, ground := Go.Ground.guard }], guard := some (30, false) }) (v := undef) rfl (by kernel_rfl) (by kernel_rfl) (by kernel_rfl) (fun _ _ _ h => h) (Or.inr ⟨by rfl, rfl⟩) hHeld ?_
                (try simp only [Act.put, List.setIfInBounds_toArray, List.set_cons_zero, List.set_cons_succ])
                refine wpAnyH_take (i := 38) (oi := { dst := some 103, op := Go.Op.pick (Go.Operand.tmp 95) (Go.Operand.const (Go.Value.bool true)) (Go.Operand.tmp 102), type := 4, pos := "shelf.go:27", after := #[{ on := 30, ground := Go.Ground.data }, { on := 37, ground := Go.Ground.data }], guard := none }) (v := ?_) rfl (by kernel_rfl) (by kernel_rfl) (by kernel_rfl) (fun _ _ _ h => h) (Or.inl ⟨by rfl, ?_⟩) hHeld ?_
                rotate_left
                · intro w hSw; (try dsimp only at hSw); (try go_split_ands); go_simp; (first | done | with_reducible rfl)
                (try simp only [Act.put, List.setIfInBounds_toArray, List.set_cons_zero, List.set_cons_succ])
                refine wpAnyH_done (by kernel_rfl) ?_ _
                refine NoPanic.normal ?_
                have HL9 := Lib.hid (HBx.out.trans (hHeld.2.2.out.mono HBx.out.size))
                have HL8 := Lib.hid (hh.out.1.trans (hHeld.2.2.out.mono hh.out.1.size))
                clear hHeld
                go_wp2_with fail
                exact HN.out _ _ rfl HL9.out
              · refine wpAnyH_take (i := 28) (oi := { dst := some 93, op := Go.Op.binOp Go.BinOp.neq 3 (Go.Operand.tmp 91) (Go.Operand.tmp 92) 3, type := 4, pos := "shelf.go:27", after := #[{ on := 26, ground := Go.Ground.data }, { on := 27, ground := Go.Ground.data }, { on := 18, ground := Go.Ground.guard }], guard := some (18, false) }) (v := .bool false) rfl (by kernel_rfl) (by kernel_rfl) (by kernel_rfl) (fun _ _ _ h => h) (Or.inl ⟨by rfl, ?_⟩) hHeld ?_
                · intro w hSw; (try dsimp only at hSw); (try go_split_ands); go_simp; (first | done | with_reducible rfl | (first | (simp <;> omega) | omega))
                (try simp only [Act.put, List.setIfInBounds_toArray, List.set_cons_zero, List.set_cons_succ])
                refine wpAnyH_take (i := 29) (oi := { dst := some 94, op := Go.Op.pick (Go.Operand.tmp 83) (Go.Operand.const (Go.Value.bool true)) (Go.Operand.tmp 93), type := 4, pos := "shelf.go:27", after := #[{ on := 18, ground := Go.Ground.data }, { on := 28, ground := Go.Ground.data }], guard := none }) (v := ?_) rfl (by kernel_rfl) (by kernel_rfl) (by kernel_rfl) (fun _ _ _ h => h) (Or.inl ⟨by rfl, ?_⟩) hHeld ?_
                rotate_left
                · intro w hSw; (try dsimp only at hSw); (try go_split_ands); go_simp; (first | done | with_reducible rfl)
                (try simp only [Act.put, List.setIfInBounds_toArray, List.set_cons_zero, List.set_cons_succ])
                refine wpAnyH_take (i := 30) (oi := { dst := some 95, op := Go.Op.move (Go.Operand.tmp 94), type := 4, pos := "shelf.go:27", after := #[{ on := 29, ground := Go.Ground.data }, { on := 26, ground := Go.Ground.chain }], guard := none }) (v := ?_) rfl (by kernel_rfl) (by kernel_rfl) (by kernel_rfl) (fun _ _ _ h => h) (Or.inl ⟨by rfl, ?_⟩) hHeld ?_
                rotate_left
                · intro w hSw; (try dsimp only at hSw); (try go_split_ands); go_simp; (first | done | with_reducible rfl)
                (try simp only [Act.put, List.setIfInBounds_toArray, List.set_cons_zero, List.set_cons_succ])
                refine wpAnyH_take (i := 31) (oi := { dst := some 96, op := Go.Op.fieldAddr 26 (Go.Operand.tmp 1) 1, type := 0, pos := "shelf.go:27", after := #[{ on := 30, ground := Go.Ground.guard }], guard := some (30, false) }) (v := ?_) rfl (by kernel_rfl) (by kernel_rfl) (by kernel_rfl) (fun _ _ _ h => h) (Or.inl ⟨by rfl, ?_⟩) hHeld ?_
                rotate_left
                · intro w hSw; (try dsimp only at hSw); (try go_split_ands); go_simp; (first | done | with_reducible rfl)
                (try simp only [Act.put, List.setIfInBounds_toArray, List.set_cons_zero, List.set_cons_succ])
                refine wpAnyH_take (i := 32) (oi := { dst := some 97, op := Go.Op.load 23 (Go.Operand.tmp 96), type := 23, pos := "shelf.go:27", after := #[{ on := 31, ground := Go.Ground.data }, { on := 30, ground := Go.Ground.guard }], guard := some (30, false) }) (v := ?_) rfl (by kernel_rfl) (by kernel_rfl) (by kernel_rfl) (fun _ _ _ h => h) (Or.inl ⟨by rfl, ?_⟩) hHeld ?_
                rotate_left
                · intro w hSw; (try dsimp only at hSw); (try go_split_ands); go_simp; (first | done | with_reducible rfl)
                (try simp only [Act.put, List.setIfInBounds_toArray, List.set_cons_zero, List.set_cons_succ])
                refine wpAnyH_take (i := 33) (oi := { dst := some 98, op := Go.Op.move (Go.Operand.tmp 6), type := 3, pos := "shelf.go:27", after := #[{ on := 30, ground := Go.Ground.guard }], guard := some (30, false) }) (v := ?_) rfl (by kernel_rfl) (by kernel_rfl) (by kernel_rfl) (fun _ _ _ h => h) (Or.inl ⟨by rfl, ?_⟩) hHeld ?_
                rotate_left
                · intro w hSw; (try dsimp only at hSw); (try go_split_ands); go_simp; (first | done | with_reducible rfl)
                (try simp only [Act.put, List.setIfInBounds_toArray, List.set_cons_zero, List.set_cons_succ])
                refine wpAnyH_take (i := 34) (oi := { dst := some 99, op := Go.Op.indexAddr 23 (Go.Operand.tmp 97) (Go.Operand.tmp 98), type := 0, pos := "shelf.go:27", after := #[{ on := 32, ground := Go.Ground.data }, { on := 33, ground := Go.Ground.data }, { on := 30, ground := Go.Ground.guard }], guard := some (30, false) }) (v := ?_) rfl (by kernel_rfl) (by kernel_rfl) (by kernel_rfl) (fun _ _ _ h => h) (Or.inl ⟨by rfl, ?_⟩) hHeld ?_
                rotate_left
                · intro w hSw; (try dsimp only at hSw); (try go_split_ands); go_simp; (first | done | with_reducible rfl)
                (try simp only [Act.put, List.setIfInBounds_toArray, List.set_cons_zero, List.set_cons_succ])
                refine wpAnyH_take (i := 35) (oi := { dst := some 100, op := Go.Op.load 54 (Go.Operand.tmp 99), type := 54, pos := "shelf.go:27", after := #[{ on := 34, ground := Go.Ground.data }, { on := 30, ground := Go.Ground.guard }], guard := some (30, false) }) (v := ?_) rfl (by kernel_rfl) (by kernel_rfl) (by kernel_rfl) (fun _ _ _ h => h) (Or.inl ⟨by rfl, ?_⟩) hHeld ?_
                rotate_left
                · intro w hSw; (try dsimp only at hSw); (try go_split_ands); go_simp; (first | done | with_reducible rfl)
                (try simp only [Act.put, List.setIfInBounds_toArray, List.set_cons_zero, List.set_cons_succ])
                refine wpAnyH_ready (rs := [36]) (by kernel_rfl) (by simp) ?_
                refine AllReadyH.cons (o := { dst := some 101, op := Go.Op.call { callee := Go.Callee.value (Go.Operand.func 30), args := #[Go.Operand.tmp 100], argTypes := #[54] }, type := 4, pos := "shelf.go:27", after := #[{ on := 35, ground := Go.Ground.data }, { on := 30, ground := Go.Ground.chain }, { on := 30, ground := Go.Ground.guard }], guard := some (30, false) }) rfl (fun K hK => ?_) AllReadyH.nil
                go_simp
                have HL := hHeld.2.2
                refine (HEE.out _ HL.out (by omega)).mono ?_
                rintro e w9 ⟨⟨b9, rfl, _⟩, h9⟩
                have HL9 := Lib.hid (HL.out.trans (h9.mono HL.out.size))
                clear h9 HL
                refine hK.out _ _ (HS17.out _ HL9.out) (fun hHeld2 => ?_)
                clear hHeld
                have hHeld := hHeld2
                clear hHeld2 hK K
                (try simp only [Act.put, List.setIfInBounds_toArray, List.set_cons_zero, List.set_cons_succ])
                refine wpAnyH_take (i := 37) (oi := { dst := some 102, op := Go.Op.unOp Go.UnOp.not 4 (Go.Operand.tmp 101), type := 4, pos := "shelf.go:27", after := #[{ on := 36, ground := Go.Ground.data }, { on := 30, ground := Go.Ground.guard }], guard := some (30, false) }) (v := ?_) rfl (by kernel_rfl) (by kernel_rfl) (by kernel_rfl) (fun _ _ _ h => h) (Or.inl ⟨by rfl, ?_⟩) hHeld ?_
                rotate_left
                · intro w hSw; (try dsimp only at hSw); (try go_split_ands); go_simp; (first | done | with_reducible rfl)
                (try simp only [Act.put, List.setIfInBounds_toArray, List.set_cons_zero, List.set_cons_succ])
                refine wpAnyH_take (i := 38) (oi := { dst := some 103, op := Go.Op.pick (Go.Operand.tmp 95) (Go.Operand.const (Go.Value.bool true)) (Go.Operand.tmp 102), type := 4, pos := "shelf.go:27", after := #[{ on := 30, ground := Go.Ground.data }, { on := 37, ground := Go.Ground.data }], guard := none }) (v := ?_) rfl (by kernel_rfl) (by kernel_rfl) (by kernel_rfl) (fun _ _ _ h => h) (Or.inl ⟨by rfl, ?_⟩) hHeld ?_
                rotate_left
                · intro w hSw; (try dsimp only at hSw); (try go_split_ands); go_simp; (first | done | with_reducible rfl)
                (try simp only [Act.put, List.setIfInBounds_toArray, List.set_cons_zero, List.set_cons_succ])
                refine wpAnyH_done (by kernel_rfl) ?_ _
                refine NoPanic.normal ?_
                have HL9 := Lib.hid (HBx.out.trans (hHeld.2.2.out.mono HBx.out.size))
                have HL8 := Lib.hid (hh.out.1.trans (hHeld.2.2.out.mono hh.out.1.size))
                clear hHeld
                have HNy := Lib.hid (HNx.out (show fn ≤ 40 by omega))
                rcases b9 with _ | _
                · go_wp2_with fail
                  exact HN.out _ _ rfl HL9.out
                · go_wp2_with fail
                  exact ⟨⟨k + 1, hlt, by go_num, Lib.hid ⟨HL8.out, HNy.out⟩⟩, by simp [intOf]; omega⟩
        · obtain rfl : k = en := by omega
          have HES := Lib.hid (all_end (by rw [HRe.out.1]; exact Nat.le_refl _) hh.out.2)
          go_wp2
          exact HP.out _ _ rfl (HQ.out hm20' he20' HMS.out HES.out) HBx.out
end Go.Proofs.Ytcjcpkjdhagofaa
