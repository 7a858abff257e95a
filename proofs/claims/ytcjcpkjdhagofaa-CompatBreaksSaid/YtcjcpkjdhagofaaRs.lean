/-
  Contracts of the document: FindMessage, FindEnum, FieldOf (places), SameMethod, both.
-/
import Derived.Test.YtcjcpkjdhagofaaBr
namespace Go.Proofs.Ytcjcpkjdhagofaa
open Go.RowKit Go.Own Go.Own.Cm Go.Shelf
attribute [local go_sem] Oper.semAt_some
/-- The first place at which p holds, or -1. -/
def PlPost {α : Type} (l : List α) (p : α → Bool) (w : World) (e : Ending) (w' : World) : Prop :=
  Below w.heap.size w w' ∧ ((l.find? p = none ∧ e = .returned (.int .i64 (-1))) ∨ ∃ (k : Nat) (x : α), l[k]? = some x ∧ l.find? p = some x ∧ e = .returned (.int .i64 (k : Int)))
set_option maxHeartbeats 2000000 in
set_option maxRecDepth 100000 in
theorem findMessageR_small (s : SchV) (nm : ByteArray) (B : Nat) (w : World) (hr : SchR w B s) (hn : s.mn ≤ 20) (hB : B ≤ w.heap.size) :
    Calls Try.prog 28 #[.agg s.cells, .string nm] w (PlPost s.ms (fun m => sameT m.nm nm) w) := by
  have HR := Lib.hid hr
  have HBs := Lib.hid hB
  clear hr hB
  obtain ⟨mA, mn, mc, ms, eA, en, ec, es, sA, sn, sc, ss⟩ := s
  simp only [SchV.cells] at hn ⊢
  have HB0 := Lib.hid ((Below.refl w.heap.size w).alloc (Nat.le_refl _) (.cells #[.slice mA mn mc, .slice eA en ec, .slice sA sn sc] 26))
  have HT0 := Lib.hid (Blk.new w 26 #[.slice mA mn mc, .slice eA en ec, .slice sA sn sc])
  go_enter Try.func28, Try.ntmps28
  go_wp2
  generalize w.alloc (.cells #[.slice mA mn mc, .slice eA en ec, .slice sA sn sc] 26) = w0 at *
  go_loopw [5] (fun i wr => ∃ k : Nat, k ≤ mn ∧ i = .int .i64 (k : Int) ∧ Hid (Below w0.heap.size w0 wr ∧ (ms.take k).any (fun m => sameT m.nm nm) = false)) (fun i _ => mn - (intOf i).toNat)
  case atStart => exact ⟨0, by omega, rfl, Lib.hid ⟨Below.refl _ _, by simp⟩⟩
  case round =>
    obtain ⟨k, hk, rfl, hh⟩ := hrel
    have HBw := Lib.hid (HB0.out.trans (hh.out.1.mono HB0.out.size))
    have HRw := Lib.hid (HR.out.below (HBw.out.mono HBs.out))
    have ht := HT0.out.below hh.out.1 HT0.out.lt
    have c0 := ht.cell 0
    have l0 := ht.lt
    simp only [List.getElem?_toArray, List.getElem?_cons_zero, List.getElem?_cons_succ] at c0
    clear ht
    by_cases hlt : k < mn
    · obtain ⟨ad, x, e, hx, a0, a1⟩ := HRw.out.m.atM hlt
      have e : mA = some ad := e
      subst e
      have HX := Lib.hid (show ms[k]? = some x from hx)
      clear hx
      obtain ⟨xn, fA, fn, fc, fs⟩ := x
      simp only at a0 a1
      have i0 : (0 : Int) ≤ (k : Int) := by omega
      have i1 : (k : Int) < (mn : Int) := by omega
      obtain ⟨b, hb⟩ : ∃ b, (xn.toList == nm.toList) = b := ⟨_, rfl⟩
      have HP := Lib.hid (show sameT xn nm = b from hb)
      rcases b with _ | _
      · have HN := Lib.hid (any_next ms (fun m => sameT m.nm nm) k _ HX.out hh.out.2 HP.out)
        go_wp2
        exact ⟨⟨k + 1, hlt, by go_num, Lib.hid ⟨hh.out.1, HN.out⟩⟩, by simp [intOf]; omega⟩
      · have HFind := Lib.hid (find_at (p := fun m : MsgV => sameT m.nm nm) HX.out hh.out.2 HP.out)
        go_wp2
        go_ret
        exact ⟨HBw.out, .inr ⟨k, _, HX.out, HFind.out, rfl⟩⟩
    · obtain rfl : k = mn := by omega
      have HF := Lib.hid (find_no (p := fun m : MsgV => sameT m.nm nm) (l := ms) (by
        have h := hh.out.2
        rw [List.take_of_length_le (by rw [HR.out.m.1]; exact Nat.le_refl _)] at h
        exact h))
      go_wp2
      go_ret
      exact ⟨HBw.out, .inl ⟨HF.out, rfl⟩⟩
set_option maxHeartbeats 2000000 in
set_option maxRecDepth 100000 in
theorem findEnumR_small (s : SchV) (nm : ByteArray) (B : Nat) (w : World) (hr : SchR w B s) (hn : s.en ≤ 20) (hB : B ≤ w.heap.size) :
    Calls Try.prog 18 #[.agg s.cells, .string nm] w (PlPost s.es (fun m => sameT m.nm nm) w) := by
  have HR := Lib.hid hr
  have HBs := Lib.hid hB
  clear hr hB
  obtain ⟨mA, mn, mc, ms, eA, en, ec, es, sA, sn, sc, ss⟩ := s
  simp only [SchV.cells] at hn ⊢
  have HB0 := Lib.hid ((Below.refl w.heap.size w).alloc (Nat.le_refl _) (.cells #[.slice mA mn mc, .slice eA en ec, .slice sA sn sc] 26))
  have HT0 := Lib.hid (Blk.new w 26 #[.slice mA mn mc, .slice eA en ec, .slice sA sn sc])
  go_enter Try.func18, Try.ntmps18
  go_wp2
  generalize w.alloc (.cells #[.slice mA mn mc, .slice eA en ec, .slice sA sn sc] 26) = w0 at *
  go_loopw [5] (fun i wr => ∃ k : Nat, k ≤ en ∧ i = .int .i64 (k : Int) ∧ Hid (Below w0.heap.size w0 wr ∧ (es.take k).any (fun m => sameT m.nm nm) = false)) (fun i _ => en - (intOf i).toNat)
  case atStart => exact ⟨0, by omega, rfl, Lib.hid ⟨Below.refl _ _, by simp⟩⟩
  case round =>
    obtain ⟨k, hk, rfl, hh⟩ := hrel
    have HBw := Lib.hid (HB0.out.trans (hh.out.1.mono HB0.out.size))
    have HRw := Lib.hid (HR.out.below (HBw.out.mono HBs.out))
    have ht := HT0.out.below hh.out.1 HT0.out.lt
    have c1 := ht.cell 1
    have l0 := ht.lt
    simp only [List.getElem?_toArray, List.getElem?_cons_zero, List.getElem?_cons_succ] at c1
    clear ht
    by_cases hlt : k < en
    · obtain ⟨ad, x, e, hx, a0, a1⟩ := HRw.out.e.atE hlt
      have e : eA = some ad := e
      subst e
      have HX := Lib.hid (show es[k]? = some x from hx)
      clear hx
      obtain ⟨xn, fA, fn, fc, fs⟩ := x
      simp only at a0 a1
      have i0 : (0 : Int) ≤ (k : Int) := by omega
      have i1 : (k : Int) < (en : Int) := by omega
      obtain ⟨b, hb⟩ : ∃ b, (xn.toList == nm.toList) = b := ⟨_, rfl⟩
      have HP := Lib.hid (show sameT xn nm = b from hb)
      rcases b with _ | _
      · have HN := Lib.hid (any_next es (fun m => sameT m.nm nm) k _ HX.out hh.out.2 HP.out)
        go_wp2
        exact ⟨⟨k + 1, hlt, by go_num, Lib.hid ⟨hh.out.1, HN.out⟩⟩, by simp [intOf]; omega⟩
      · have HFind := Lib.hid (find_at (p := fun m : EnmV => sameT m.nm nm) HX.out hh.out.2 HP.out)
        go_wp2
        go_ret
        exact ⟨HBw.out, .inr ⟨k, _, HX.out, HFind.out, rfl⟩⟩
    · obtain rfl : k = en := by omega
      have HF := Lib.hid (find_no (p := fun m : EnmV => sameT m.nm nm) (l := es) (by
        have h := hh.out.2
        rw [List.take_of_length_le (by rw [HR.out.e.1]; exact Nat.le_refl _)] at h
        exact h))
      go_wp2
      go_ret
      exact ⟨HBw.out, .inl ⟨HF.out, rfl⟩⟩
theorem findMessageR_any (s : SchV) (nm : ByteArray) (B : Nat) (w : World) (hr : SchR w B s) (hz : SchZ s) (hB : B ≤ w.heap.size) :
    Calls Try.prog 28 #[.agg s.cells, .string nm] w (PlPost s.ms (fun m => sameT m.nm nm) w) := findMessageR_small s nm B w hr hz.m hB
theorem findEnumR_any (s : SchV) (nm : ByteArray) (B : Nat) (w : World) (hr : SchR w B s) (hz : SchZ s) (hB : B ≤ w.heap.size) :
    Calls Try.prog 18 #[.agg s.cells, .string nm] w (PlPost s.es (fun m => sameT m.nm nm) w) := findEnumR_small s nm B w hr hz.e hB
set_option maxHeartbeats 2000000 in
set_option maxRecDepth 100000 in
theorem fieldOfR_any (nm : ByteArray) (B : Nat) (A : Option Addr) (n c : Nat) (l : List FldV) (z : Int) (w : World) (hn : n ≤ 1000000) (hr : RS FldV.cells 10 w B A n l) (hB : B ≤ w.heap.size) :
    Calls Try.prog 31 #[.agg #[.string nm, .slice A n c], .int .i64 z] w (PlPost l (fun f => f.num == z) w) := by
  have HR := Lib.hid hr
  have HBs := Lib.hid hB
  clear hr hB
  have HB0 := Lib.hid ((Below.refl w.heap.size w).alloc (Nat.le_refl _) (.cells #[.string nm, .slice A n c] 45))
  have HT0 := Lib.hid (Blk.new w 45 #[.string nm, .slice A n c])
  go_enter Try.func31, Try.ntmps31
  go_wp2
  generalize w.alloc (.cells #[.string nm, .slice A n c] 45) = w0 at *
  go_loopw [5] (fun i wr => ∃ k : Nat, k ≤ n ∧ i = .int .i64 (k : Int) ∧ Hid (Below w0.heap.size w0 wr ∧ (l.take k).any (fun f => f.num == z) = false)) (fun i _ => n - (intOf i).toNat)
  case atStart => exact ⟨0, by omega, rfl, Lib.hid ⟨Below.refl _ _, by simp⟩⟩
  case round =>
    obtain ⟨k, hk, rfl, hh⟩ := hrel
    have HBw := Lib.hid (HB0.out.trans (hh.out.1.mono HB0.out.size))
    have HRw := Lib.hid (HR.out.below (HBw.out.mono HBs.out))
    have ht := HT0.out.below hh.out.1 HT0.out.lt
    have c1 := ht.cell 1
    have l0 := ht.lt
    simp only [List.getElem?_toArray, List.getElem?_cons_zero, List.getElem?_cons_succ] at c1
    clear ht
    by_cases hlt : k < n
    · obtain ⟨ad, x, rfl, hx, a0, a1, a2, a3, a4, _⟩ := HRw.out.atF hlt
      have HX := Lib.hid hx
      clear hx
      obtain ⟨f1, f2, f3, f4, fa, fb, fcc, fp, fq, fr⟩ := x
      simp only at a4
      have i0 : (0 : Int) ≤ (k : Int) := by omega
      have i1 : (k : Int) < (n : Int) := by omega
      obtain ⟨b, hb⟩ : ∃ b, (fa == z) = b := ⟨_, rfl⟩
      have HP := Lib.hid hb
      rcases b with _ | _
      · have HN := Lib.hid (any_next l (fun f => f.num == z) k _ HX.out hh.out.2 HP.out)
        go_wp2
        exact ⟨⟨k + 1, hlt, by go_num, Lib.hid ⟨hh.out.1, HN.out⟩⟩, by simp [intOf]; omega⟩
      · have HFind := Lib.hid (find_at (p := fun f : FldV => f.num == z) HX.out hh.out.2 HP.out)
        go_wp2
        go_ret
        exact ⟨HBw.out, .inr ⟨k, _, HX.out, HFind.out, rfl⟩⟩
    · obtain rfl : k = n := by omega
      have HF := Lib.hid (find_no (p := fun f : FldV => f.num == z) (l := l) (by
        have h := hh.out.2
        rw [List.take_of_length_le (by rw [HR.out.1]; exact Nat.le_refl _)] at h
        exact h))
      go_wp2
      go_ret
      exact ⟨HBw.out, .inl ⟨HF.out, rfl⟩⟩
set_option maxHeartbeats 2000000 in
set_option maxRecDepth 100000 in
theorem sameMethod_any (f g : MthV) (w : World) : Calls Try.prog 21 #[.agg f.cells, .agg g.cells] w (AskP (sameM f g) w) := by
  obtain ⟨g1, g2, g3, g4⟩ := f
  obtain ⟨xn, xi, xo, xk⟩ := g
  simp only [MthV.cells]
  obtain ⟨b1, hb1⟩ : ∃ b1, (g1.toList == xn.toList) = b1 := ⟨_, rfl⟩
  obtain ⟨b2, hb2⟩ : ∃ b2, (g2.toList == xi.toList) = b2 := ⟨_, rfl⟩
  obtain ⟨b3, hb3⟩ : ∃ b3, (g3.toList == xo.toList) = b3 := ⟨_, rfl⟩
  obtain ⟨b4, hb4⟩ : ∃ b4, (g4 == xk) = b4 := ⟨_, rfl⟩
  have HP : Hid (sameM ⟨g1, g2, g3, g4⟩ ⟨xn, xi, xo, xk⟩ = (b1 && b2 && b3 && b4)) := Lib.hid (by
    show (sameT g1 xn && sameT g2 xi && sameT g3 xo && g4 == xk) = _
    rw [show sameT g1 xn = b1 from hb1, show sameT g2 xi = b2 from hb2, show sameT g3 xo = b3 from hb3, hb4])
  rw [HP.out]
  clear HP
  rcases b1 with _ | _ <;> rcases b2 with _ | _ <;> rcases b3 with _ | _ <;> rcases b4 with _ | _
  all_goals
    go_enter Try.func21, Try.ntmps21
    go_wp2
    go_ret
    exact ⟨rfl, ((Below.refl w.heap.size w).alloc (Nat.le_refl _) _).alloc (by simp) _⟩
end Go.Proofs.Ytcjcpkjdhagofaa
