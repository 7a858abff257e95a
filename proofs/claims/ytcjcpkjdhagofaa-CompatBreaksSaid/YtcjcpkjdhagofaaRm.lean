/-
  Contract of the document: FindMethod.
-/
import Derived.Test.YtcjcpkjdhagofaaRs
namespace Go.Proofs.Ytcjcpkjdhagofaa
open Go.RowKit Go.Own Go.Own.Cm Go.Shelf
attribute [local go_sem] Oper.semAt_some
theorem results_fr (tmps : Array Value) (w : World) (g : Nat) (a b c d v : Value) (ht : tmps[6]? = some (.pointer (some ⟨g, 0, none⟩))) (h5 : tmps[7]? = some v) (hb : Blk w g 51 #[a, b, c, d]) :
    (results Try.f20 tmps).run Try.prog w = .ok (.tuple #[.agg #[a, b, c, d], v]) w := by
  have c0 : w.cell? ⟨g, 0, none⟩ = some a := hb.cell 0
  have c1 : w.cell? ⟨g, 1, none⟩ = some b := hb.cell 1
  have c2 : w.cell? ⟨g, 2, none⟩ = some c := hb.cell 2
  have c3 : w.cell? ⟨g, 3, none⟩ = some d := hb.cell 3
  simp [results, Try.results20, go_sem, ht, h5, c0, c1, c2, c3]
set_option maxHeartbeats 2000000 in
set_option maxRecDepth 100000 in
theorem findMethodR_any (s : SchV) (nm mt : ByteArray) (B : Nat) (w : World) (hr : SchR w B s) (hz : SchZ s) (hB : B ≤ w.heap.size) :
    Calls Try.prog 20 #[.agg s.cells, .string nm, .string mt] w (FtPost s nm mt w) := by
  have HR := Lib.hid hr
  have HM := Lib.hid hr.u.1
  have HZ := Lib.hid hz
  have HBs := Lib.hid hB
  have hn : s.sn ≤ 20 := hz.u
  clear hr hz hB
  obtain ⟨mA, mn, mc, ms, eA, en, ec, es, sA, sn, sc, ss⟩ := s
  simp only [SchV.cells] at hn HM ⊢
  have HW : ∃ w0, w0 = (w.alloc (.cells #[.slice mA mn mc, .slice eA en ec, .slice sA sn sc] 26)).alloc (.cells #[.string ⟨#[]⟩, .string ⟨#[]⟩, .string ⟨#[]⟩, .int .i64 0] 51) ∧ Below w.heap.size w w0 ∧ Blk w0 w.heap.size 26 #[.slice mA mn mc, .slice eA en ec, .slice sA sn sc] ∧ Blk w0 (w.heap.size + 1) 51 #[.string ⟨#[]⟩, .string ⟨#[]⟩, .string ⟨#[]⟩, .int .i64 0] :=
    ⟨_, rfl, ((Below.refl _ _).alloc (Nat.le_refl _) _).alloc (by simp) _, (Blk.new w 26 #[.slice mA mn mc, .slice eA en ec, .slice sA sn sc]).alloc _, by simpa using Blk.new (w.alloc (.cells #[.slice mA mn mc, .slice eA en ec, .slice sA sn sc] 26)) 51 #[.string ⟨#[]⟩, .string ⟨#[]⟩, .string ⟨#[]⟩, .int .i64 0]⟩
  obtain ⟨w0, e0, W1, W2, W3⟩ := HW
  have HB0 := Lib.hid W1
  have HS0 := Lib.hid W2
  have HT0 := Lib.hid W3
  have HE0 := Lib.hid e0
  clear W1 W2 W3 e0
  have HNO : Hid (∀ W v0 v1 v2 v3, Below w0.heap.size w0 W → mthAt ⟨mA, mn, mc, ms, eA, en, ec, es, sA, sn, sc, ss⟩ nm mt = none → v0 = Value.string ⟨#[]⟩ → v1 = Value.string ⟨#[]⟩ → v2 = Value.string ⟨#[]⟩ → v3 = Value.int .i64 0 → FtPost ⟨mA, mn, mc, ms, eA, en, ec, es, sA, sn, sc, ss⟩ nm mt w (.returned (.tuple #[.agg #[v0, v1, v2, v3], .bool false])) ((((W.setCell ⟨w.heap.size + 1, 0, none⟩ v0).setCell ⟨w.heap.size + 1, 1, none⟩ v1).setCell ⟨w.heap.size + 1, 2, none⟩ v2).setCell ⟨w.heap.size + 1, 3, none⟩ v3)) := Lib.hid (by
    rintro W v0 v1 v2 v3 hW hm rfl rfl rfl rfl
    exact ⟨((((HB0.out.trans (hW.mono HB0.out.size)).setCell (by simp) _).setCell (by simp) _).setCell (by simp) _).setCell (by simp) _, .inl ⟨hm, rfl⟩⟩)
  go_enter Try.func20, Try.ntmps20
  go_wp2
  rw [← HE0.out]
  go_loopw [8] (fun i wr => ∃ k : Nat, k ≤ sn ∧ i = .int .i64 (k : Int) ∧ Hid (Below w0.heap.size w0 wr ∧ (ss.take k).any (fun m => sameT m.nm nm) = false)) (fun i _ => sn - (intOf i).toNat)
  case atStart => exact ⟨0, by omega, rfl, Lib.hid ⟨Below.refl _ _, by simp⟩⟩
  case round =>
    obtain ⟨k, hk, rfl, hh⟩ := hrel
    have HBw := Lib.hid (HB0.out.trans (hh.out.1.mono HB0.out.size))
    have HRw := Lib.hid (HR.out.below (HBw.out.mono HBs.out))
    have l1 : w.heap.size + 1 < wr.heap.size := (HT0.out.below hh.out.1 HT0.out.lt).lt
    have s2 := (HS0.out.below hh.out.1 HS0.out.lt).cell 2
    simp only [List.getElem?_toArray, List.getElem?_cons_zero, List.getElem?_cons_succ] at s2
    by_cases hlt : k < sn
    · obtain ⟨ad, x, e, hx, a0, a1⟩ := HRw.out.u.atS hlt
      have e : sA = some ad := e
      subst e
      have HX := Lib.hid (show ss[k]? = some x from hx)
      have HFx := Lib.hid (HRw.out.t x (List.mem_of_getElem? hx))
      have HZx := Lib.hid (HZ.out.t x (List.mem_of_getElem? hx))
      clear hx
      obtain ⟨xn, fA, fn, fc, fs⟩ := x
      simp only at a0 a1 HFx HZx
      have i0 : (0 : Int) ≤ (k : Int) := by omega
      have i1 : (k : Int) < (sn : Int) := by omega
      obtain ⟨b, hb⟩ : ∃ b, (xn.toList == nm.toList) = b := ⟨_, rfl⟩
      have HP := Lib.hid (show sameT xn nm = b from hb)
      rcases b with _ | _
      · have HN := Lib.hid (any_next ss (fun m => sameT m.nm nm) k _ HX.out hh.out.2 HP.out)
        go_wp2
        exact ⟨⟨k + 1, hlt, by go_num, Lib.hid ⟨hh.out.1, HN.out⟩⟩, by simp [intOf]; omega⟩
      · have HFind := Lib.hid (show srvAt ⟨mA, mn, mc, ms, eA, en, ec, es, some ad, sn, sc, ss⟩ nm = some ⟨xn, fA, fn, fc, fs⟩ from find_at HX.out hh.out.2 HP.out)
        have hfn : fn ≤ 40 := HZx.out
        go_wp2
        go_loopw [9] (fun i wq => ∃ j : Nat, j ≤ fn ∧ i = .int .i64 (j : Int) ∧ Hid (Below w0.heap.size w0 wq ∧ (fs.take j).any (fun m => sameT m.nm mt) = false)) (fun i _ => fn - (intOf i).toNat)
        case atStart => exact ⟨0, by omega, rfl, Lib.hid ⟨hh.out.1, by simp⟩⟩
        case round =>
          obtain ⟨j, hj, rfl, hh2⟩ := hrel
          have HBw2 := Lib.hid (HB0.out.trans (hh2.out.1.mono HB0.out.size))
          have HT1 := Lib.hid (HT0.out.below hh2.out.1 HT0.out.lt)
          have l2 : w.heap.size + 1 < wr.heap.size := HT1.out.lt
          have c0 := HT1.out.cell 0
          have c1 := HT1.out.cell 1
          have c2 := HT1.out.cell 2
          have c3 := HT1.out.cell 3
          have f0 := HT1.out.frozen 0
          have f1 := HT1.out.frozen 1
          have f2 := HT1.out.frozen 2
          have f3 := HT1.out.frozen 3
          simp only [List.getElem?_toArray, List.getElem?_cons_zero, List.getElem?_cons_succ] at c0 c1 c2 c3
          have s22 := (HS0.out.below hh2.out.1 HS0.out.lt).cell 2
          simp only [List.getElem?_toArray, List.getElem?_cons_zero, List.getElem?_cons_succ] at s22
          obtain ⟨ad', x', e', hx', p0, p1⟩ := (HR.out.below (HBw2.out.mono HBs.out)).u.atS hlt
          have e' : ad = ad' := Option.some.inj e'
          subst e'
          have ex : x' = ⟨xn, fA, fn, fc, fs⟩ := Option.some.inj (hx'.symm.trans HX.out)
          subst ex
          simp only at p0 p1
          clear hx'
          have HF2 := Lib.hid ((HR.out.t _ (List.mem_of_getElem? HX.out)).below (HBw2.out.mono HBs.out))
          by_cases hlt2 : j < fn
          · obtain ⟨ad2, y, rfl, hy, b0, b1, b2, b3⟩ := HF2.out.atT hlt2
            have HY := Lib.hid (show fs[j]? = some y from hy)
            clear hy
            obtain ⟨yn, yi, yo, yk⟩ := y
            simp only at b0 b1 b2 b3
            have j0 : (0 : Int) ≤ (j : Int) := by omega
            have j1 : (j : Int) < (fn : Int) := by omega
            obtain ⟨b', hb'⟩ : ∃ b, (yn.toList == mt.toList) = b := ⟨_, rfl⟩
            have HP2 := Lib.hid (show sameT yn mt = b' from hb')
            rcases b' with _ | _
            · have HN := Lib.hid (any_next fs (fun m => sameT m.nm mt) j _ HY.out hh2.out.2 HP2.out)
              go_wp2
              exact ⟨⟨j + 1, hlt2, by go_num, Lib.hid ⟨hh2.out.1, HN.out⟩⟩, by simp [intOf]; omega⟩
            · have HFd := Lib.hid (show mthAt ⟨mA, mn, mc, ms, eA, en, ec, es, some ad, sn, sc, ss⟩ nm mt = some ⟨yn, yi, yo, yk⟩ by
                unfold mthAt
                rw [HFind.out]
                exact find_at HY.out hh2.out.2 HP2.out)
              go_wp2
              refine bodyPost_ret (results_fr _ _ (w.heap.size + 1) _ _ _ _ _ rfl rfl (Blk.four_put HT1.out rfl _ _ _ _)) rfl ?_
              exact ⟨(((HBw2.out.setCell (by simp) _).setCell (by simp) _).setCell (by simp) _).setCell (by simp) _, .inr ⟨_, HFd.out, rfl⟩⟩
          · obtain rfl : j = fn := by omega
            have HN := Lib.hid hh2.out.2
            rw [List.take_of_length_le (by rw [HF2.out.1]; exact Nat.le_refl _)] at HN
            have HNo := Lib.hid (show mthAt ⟨mA, mn, mc, ms, eA, en, ec, es, some ad, sn, sc, ss⟩ nm mt = none by
                unfold mthAt
                rw [HFind.out]
                exact find_no HN.out)
            go_wp2
            refine bodyPost_ret (results_fr _ _ (w.heap.size + 1) _ _ _ _ _ rfl rfl (Blk.four_put HT1.out rfl _ _ _ _)) rfl ?_
            exact HNO.out _ _ _ _ _ hh2.out.1 HNo.out rfl rfl rfl rfl
    · obtain rfl : k = sn := by omega
      have HN := Lib.hid hh.out.2
      rw [List.take_of_length_le (by rw [HM.out]; exact Nat.le_refl _)] at HN
      have HT1 := Lib.hid (HT0.out.below hh.out.1 HT0.out.lt)
      have HNo := Lib.hid (show mthAt ⟨mA, mn, mc, ms, eA, en, ec, es, sA, k, sc, ss⟩ nm mt = none by
        unfold mthAt srvAt
        rw [find_no HN.out]
        rfl)
      have c0 := HT1.out.cell 0
      have c1 := HT1.out.cell 1
      have c2 := HT1.out.cell 2
      have c3 := HT1.out.cell 3
      have f0 := HT1.out.frozen 0
      have f1 := HT1.out.frozen 1
      have f2 := HT1.out.frozen 2
      have f3 := HT1.out.frozen 3
      simp only [List.getElem?_toArray, List.getElem?_cons_zero, List.getElem?_cons_succ] at c0 c1 c2 c3
      go_wp2
      refine bodyPost_ret (results_fr _ _ (w.heap.size + 1) _ _ _ _ _ rfl rfl (Blk.four_put HT1.out rfl _ _ _ _)) rfl ?_
      exact HNO.out _ _ _ _ _ hh.out.1 HNo.out rfl rfl rfl rfl
end Go.Proofs.Ytcjcpkjdhagofaa
