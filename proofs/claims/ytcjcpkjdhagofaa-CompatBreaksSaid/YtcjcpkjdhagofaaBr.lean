/-
  Contract: compat's Breaks.
-/
import Derived.Test.YtcjcpkjdhagofaaSv
namespace Go.Own.Cm
open Go Go.RowKit Go.Own
theorem SchR.more {w : World} {B B' : Nat} {s : SchV} (h : SchR w B s) (hB : B ≤ B') : SchR w B' s :=
  ⟨h.m.more hB, fun x hx => (h.f x hx).more hB, h.e.more hB, fun x hx => (h.v x hx).more hB, h.u.more hB, fun x hx => (h.t x hx).more hB⟩
theorem flat_le_k {α : Type} (p : α → List BrkV) (b : Nat) : ∀ l : List α, (∀ x ∈ l, (p x).length ≤ b) → (l.flatMap p).length ≤ b * l.length
  | [], _ => by simp
  | x :: l, h => by
    have := h x (by simp)
    have := flat_le_k p b l (fun y hy => h y (by simp [hy]))
    simp only [List.flatMap_cons, List.length_append, List.length_cons, Nat.mul_succ]
    omega
end Go.Own.Cm
namespace Go.Proofs.Ytcjcpkjdhagofaa
open Go.RowKit Go.Own Go.Own.Cm Go.Shelf
attribute [local go_sem] Oper.semAt_some
theorem msg_le (s : SchV) (m : MsgV) (h : m.fs.length ≤ 40) : (msgBrk s m).length ≤ 80 := by
  unfold msgBrk
  split
  · simp [bothL]
  · rename_i n _
    have := flat_le (fldBrk m.nm n.fs) (two_len _ _) m.fs
    omega
theorem enm_le (s : SchV) (m : EnmV) (h : m.vs.length ≤ 40) : (enmBrk s m).length ≤ 80 := by
  unfold enmBrk
  split
  · simp
  · rename_i n _
    have := flat_le (evBrk m.nm n.vs) (ev_len _ _) m.vs
    omega
theorem srv_le (s : SchV) (m : SrvV) (h : m.ts.length ≤ 40) : (srvBrk s m).length ≤ 80 := by
  unfold srvBrk
  split
  · have := flat_le (mthBrk s m.nm) (mth_len _ _) m.ts
    omega
  · simp [bothL]
theorem msgs_le {w : World} {B : Nat} {a : SchV} (b : SchV) (hr : SchR w B a) (hz : SchZ a) (k : Nat) : ((a.ms.take k).flatMap (msgBrk b)).length ≤ 1600 := by
  have h := flat_le_k (msgBrk b) 80 (a.ms.take k) (fun x hx => msg_le b x (by
    have hx := List.mem_of_mem_take hx
    rw [(hr.f x hx).1]; exact hz.f x hx))
  have h1 := hr.m.1
  have h2 := hz.m
  have h3 : (a.ms.take k).length ≤ 20 := by rw [List.length_take]; omega
  omega
theorem enms_le {w : World} {B : Nat} {a : SchV} (b : SchV) (hr : SchR w B a) (hz : SchZ a) (k : Nat) : ((a.es.take k).flatMap (enmBrk b)).length ≤ 1600 := by
  have h := flat_le_k (enmBrk b) 80 (a.es.take k) (fun x hx => enm_le b x (by
    have hx := List.mem_of_mem_take hx
    rw [(hr.v x hx).1]; exact hz.v x hx))
  have h1 := hr.e.1
  have h2 := hz.e
  have h3 : (a.es.take k).length ≤ 20 := by rw [List.length_take]; omega
  omega
theorem srvs_le {w : World} {B : Nat} {a : SchV} (b : SchV) (hr : SchR w B a) (hz : SchZ a) (k : Nat) : ((a.ss.take k).flatMap (srvBrk b)).length ≤ 1600 := by
  have h := flat_le_k (srvBrk b) 80 (a.ss.take k) (fun x hx => srv_le b x (by
    have hx := List.mem_of_mem_take hx
    rw [(hr.t x hx).1]; exact hz.t x hx))
  have h1 := hr.u.1
  have h2 := hz.u
  have h3 : (a.ss.take k).length ≤ 20 := by rw [List.length_take]; omega
  omega
/-- New memory that reads as a list of breaks. -/
structure NewL (w : World) (A : Option Addr) (n : Nat) (l : List BrkV) (w' : World) : Prop where
  rs : RS BrkV.cells 5 w' w'.heap.size A n l
  bel : Below w.heap.size w w'
  new : ∀ ad, A = some ad → w.heap.size ≤ ad.block
def NewPost (w : World) (l : List BrkV) (e : Ending) (w' : World) : Prop := ∃ A n c, e = .returned (.slice A n c) ∧ Hid (NewL w A n l w')
set_option maxHeartbeats 4000000 in
set_option maxRecDepth 100000 in
theorem breaks_any (a b : SchV) (B : Nat) (w : World) (hra : SchR w B a) (hza : SchZ a) (hrb : SchR w B b) (hzb : SchZ b) (hB : B ≤ w.heap.size) :
    Calls Try.prog 9 #[.agg a.cells, .agg b.cells] w (NewPost w (breaksOf a b)) := by
  have HLM := Lib.hid (msgs_le b hra hza)
  have HLE := Lib.hid (enms_le b hra hza)
  have HLS := Lib.hid (srvs_le b hra hza)
  have HME := Lib.hid fun (pb : Nat) (m : MsgV) (W : World) (v : Value) (L : List BrkV) (h1 : w.heap.size ≤ pb) (h2 : Below w.heap.size w W) (h3 : LSc pb W v L) (hm : m ∈ a.ms) (hl : L.length ≤ 50000) =>
    message_any pb b m W v L h3 ((hrb.below (h2.mono hB)).more (Nat.le_trans hB h1)) hzb (((hra.f m hm).below (h2.mono hB)).more (Nat.le_trans hB h1)) (hza.f m hm) (hza.k m hm) hl
  have HEE := Lib.hid fun (pb : Nat) (m : EnmV) (W : World) (v : Value) (L : List BrkV) (h1 : w.heap.size ≤ pb) (h2 : Below w.heap.size w W) (h3 : LSc pb W v L) (hm : m ∈ a.es) (hl : L.length ≤ 50000) =>
    enum_any pb b m W v L h3 ((hrb.below (h2.mono hB)).more (Nat.le_trans hB h1)) hzb (((hra.v m hm).below (h2.mono hB)).more (Nat.le_trans hB h1)) (hza.v m hm) hl
  have HSE := Lib.hid fun (pb : Nat) (m : SrvV) (W : World) (v : Value) (L : List BrkV) (h1 : w.heap.size ≤ pb) (h2 : Below w.heap.size w W) (h3 : LSc pb W v L) (hm : m ∈ a.ss) (hl : L.length ≤ 50000) =>
    service_any pb b m W v L h3 ((hrb.below (h2.mono hB)).more (Nat.le_trans hB h1)) hzb (((hra.t m hm).below (h2.mono hB)).more (Nat.le_trans hB h1)) (hza.t m hm) hl
  have HRA := Lib.hid (hra.more hB)
  have hm20 := hza.m
  have he20 := hza.e
  have hs20 := hza.u
  have HBO : Hid (breaksOf a b = a.ms.flatMap (msgBrk b) ++ (a.es.flatMap (enmBrk b) ++ a.ss.flatMap (srvBrk b))) := Lib.hid rfl
  clear hra hza hrb hzb hB
  generalize breaksOf a b = bo at *
  generalize hqm : msgBrk b = qm at *
  generalize hqe : enmBrk b = qe at *
  generalize hqs : srvBrk b = qs at *
  clear hqm hqe hqs
  obtain ⟨mA, mn, mc, ms, eA, en, ec, es, sA, sn, sc, ss⟩ := a
  generalize hbc : b.cells = bc at *
  obtain ⟨q1, q2, q3, rfl⟩ : ∃ q1 q2 q3, bc = #[q1, q2, q3] := ⟨_, _, _, hbc.symm⟩
  clear hbc
  simp only [SchV.cells] at HLM HLE HLS HME HEE HSE hm20 he20 hs20 HBO ⊢
  go_enter Try.func9, Try.ntmps9
  go_wp2
  have W1 : Below w.heap.size w (((w.alloc (.cells #[.slice mA mn mc, .slice eA en ec, .slice sA sn sc] 26)).alloc (.cells #[q1, q2, q3] 26)).alloc (.cells #[.slice none 0 0] 62)) := (((Below.refl w.heap.size w).alloc (Nat.le_refl _) _).alloc (by simp) _).alloc (by simp; omega) _
  have W2 : Blk (((w.alloc (.cells #[.slice mA mn mc, .slice eA en ec, .slice sA sn sc] 26)).alloc (.cells #[q1, q2, q3] 26)).alloc (.cells #[.slice none 0 0] 62)) w.heap.size 26 #[.slice mA mn mc, .slice eA en ec, .slice sA sn sc] := ((Blk.new w 26 #[.slice mA mn mc, .slice eA en ec, .slice sA sn sc]).alloc _).alloc _
  have W3 : Blk (((w.alloc (.cells #[.slice mA mn mc, .slice eA en ec, .slice sA sn sc] 26)).alloc (.cells #[q1, q2, q3] 26)).alloc (.cells #[.slice none 0 0] 62)) (w.heap.size + 1) 26 #[q1, q2, q3] := (by
    simpa using (Blk.new (w.alloc (.cells #[.slice mA mn mc, .slice eA en ec, .slice sA sn sc] 26)) 26 #[q1, q2, q3]).alloc (.cells #[.slice none 0 0] 62))
  have W4 : Blk (((w.alloc (.cells #[.slice mA mn mc, .slice eA en ec, .slice sA sn sc] 26)).alloc (.cells #[q1, q2, q3] 26)).alloc (.cells #[.slice none 0 0] 62)) (w.heap.size + 2) 62 #[.slice none 0 0] := (by
    simpa using (Blk.new ((w.alloc (.cells #[.slice mA mn mc, .slice eA en ec, .slice sA sn sc] 26)).alloc (.cells #[q1, q2, q3] 26)) 62 #[.slice none 0 0]))
  generalize (((w.alloc (.cells #[.slice mA mn mc, .slice eA en ec, .slice sA sn sc] 26)).alloc (.cells #[q1, q2, q3] 26)).alloc (.cells #[.slice none 0 0] 62)) = w3 at *
  have HB3 := Lib.hid W1
  have HBA := Lib.hid W2
  have HBB := Lib.hid W3
  have HL3 : Hid (LSc (w.heap.size + 2) w3 (.slice none 0 0) []) := Lib.hid ⟨W4, Ew.nil _ _ _ _ _⟩
  clear W1 W2 W3 W4
  go_loopw [15] (fun i wr => ∃ k : Nat, k ≤ mn ∧ i = .int .i64 (k : Int) ∧ Hid (∃ v', MsJ (w.heap.size + 2) w3 (.slice none 0 0) ((ms.take k).flatMap qm) wr v')) (fun i _ => mn - (intOf i).toNat)
  case atStart => exact ⟨0, Nat.zero_le _, rfl, Lib.hid ⟨_, ⟨by simpa using HL3.out, LStep.refl _ _ _⟩⟩⟩
  case round =>
    obtain ⟨k, hk, rfl, hh⟩ := hrel
    obtain ⟨v1, hJ⟩ := hh.out
    have hu := hJ.st.under HL3.out
    have hb1 : Below w.heap.size w wr := HB3.out.trans (hu.mono (by omega))
    by_cases hlt : k < mn
    · obtain ⟨ad, x, e, hx, a0, a1⟩ := (HRA.out.below hb1).m.atM hlt
      have e : mA = some ad := e
      subst e
      have HX := Lib.hid (show ms[k]? = some x from hx)
      have HFT := Lib.hid (flat_take qm ms k x hx)
      have i0 : (0 : Int) ≤ (k : Int) := by omega
      have i1 : (k : Int) < (mn : Int) := by omega
      have hbB := HBB.out.below hu (by omega)
      have d30 := hbB.cell 0
      have d31 := hbB.cell 1
      have d32 := hbB.cell 2
      have ln1 := hbB.lt
      have lp1 := hJ.ls.blk.lt
      simp only [List.getElem?_toArray, List.getElem?_cons_zero, List.getElem?_cons_succ] at d30 d31 d32
      have HJ := Lib.hid hJ
      have hl1 := HLM.out k
      generalize hL1 : ((ms.take k).flatMap qm) = L1 at HJ hl1
      have HLQ := Lib.hid hL1
      obtain ⟨xn, xA, xk, xc, xs⟩ := x
      simp only at a0 a1
      have hb2 : Below wr.heap.size wr (wr.alloc (.cells #[.string xn, .slice xA xk xc] 45)) := (Below.refl _ _).alloc (Nat.le_refl _) _
      have HB2 := Lib.hid hb2
      have HCA := Lib.hid (HME.out (w.heap.size + 2) ⟨xn, xA, xk, xc, xs⟩ (wr.alloc (.cells #[.string xn, .slice xA xk xc] 45)) v1 L1 (by omega) (hb1.trans (hb2.mono (by omega))) (HJ.out.ls.below hb2) (List.mem_of_getElem? HX.out) (by omega))
      simp only [MsgV.cells] at HCA
      clear hx hJ hh hb1 hu hbB hb2 hl1 hL1
      go_wp2_with (with_reducible refine HCA.out.mono ?_
                   rintro e w5 ⟨rfl, v5, hl5, hs5⟩
                   have HJ5 := Lib.hid (show MsJ (w.heap.size + 2) w3 (.slice none 0 0) ((ms.take (k + 1)).flatMap qm) w5 v5 from ⟨by
                     rw [HFT.out]
                     rw [show (ms.take k).flatMap qm = L1 from HLQ.out]
                     exact hl5, HJ.out.st.trans ((LStep.of_below HB2.out).trans hs5)⟩)
                   clear hl5 hs5)
      exact ⟨⟨k + 1, by omega, by simp, Lib.hid ⟨v5, HJ5.out⟩⟩, by simp [intOf]; omega⟩
    · obtain rfl : k = mn := by omega
      have hM := hJ
      rw [show ms.take k = ms from List.take_of_length_le (by rw [HRA.out.m.1]; exact Nat.le_refl _)] at hM
      have HJM := Lib.hid hM
      have hbA := HBA.out.below hu (by omega)
      have d20 := hbA.cell 0
      have d21 := hbA.cell 1
      have d22 := hbA.cell 2
      have la1 := hbA.lt
      have lp1 := hJ.ls.blk.lt
      simp only [List.getElem?_toArray, List.getElem?_cons_zero, List.getElem?_cons_succ] at d20 d21 d22
      clear hM hJ hh hbA hb1 hu
      go_wp2
      go_loopw [26] (fun i wr => ∃ k : Nat, k ≤ en ∧ i = .int .i64 (k : Int) ∧ Hid (∃ v', MsJ (w.heap.size + 2) w3 (.slice none 0 0) (ms.flatMap qm ++ (es.take k).flatMap qe) wr v')) (fun i _ => en - (intOf i).toNat)
      case atStart => exact ⟨0, Nat.zero_le _, rfl, Lib.hid ⟨_, ⟨by simpa using HJM.out.ls, HJM.out.st⟩⟩⟩
      case round =>
        obtain ⟨k, hk, rfl, hh⟩ := hrel
        obtain ⟨v1, hJ⟩ := hh.out
        have hu := hJ.st.under HL3.out
        have hb1 : Below w.heap.size w wr := HB3.out.trans (hu.mono (by omega))
        by_cases hlt : k < en
        · obtain ⟨ad, x, e, hx, a0, a1⟩ := (HRA.out.below hb1).e.atE hlt
          have e : eA = some ad := e
          subst e
          have HX := Lib.hid (show es[k]? = some x from hx)
          have HFT := Lib.hid (flat_take qe es k x hx)
          have i0 : (0 : Int) ≤ (k : Int) := by omega
          have i1 : (k : Int) < (en : Int) := by omega
          have hbB := HBB.out.below hu (by omega)
          have d30 := hbB.cell 0
          have d31 := hbB.cell 1
          have d32 := hbB.cell 2
          have ln1 := hbB.lt
          have lp1 := hJ.ls.blk.lt
          simp only [List.getElem?_toArray, List.getElem?_cons_zero, List.getElem?_cons_succ] at d30 d31 d32
          have HJ := Lib.hid hJ
          have hl1 := (show (ms.flatMap qm ++ (es.take k).flatMap qe).length ≤ 10000 from by have h1 := HLM.out ms.length; rw [List.take_length] at h1; have h2 := HLE.out k; rw [List.length_append]; omega)
          generalize hL1 : (ms.flatMap qm ++ (es.take k).flatMap qe) = L1 at HJ hl1
          have HLQ := Lib.hid hL1
          obtain ⟨xn, xA, xk, xc, xs⟩ := x
          simp only at a0 a1
          have hb2 : Below wr.heap.size wr (wr.alloc (.cells #[.string xn, .slice xA xk xc] 54)) := (Below.refl _ _).alloc (Nat.le_refl _) _
          have HB2 := Lib.hid hb2
          have HCA := Lib.hid (HEE.out (w.heap.size + 2) ⟨xn, xA, xk, xc, xs⟩ (wr.alloc (.cells #[.string xn, .slice xA xk xc] 54)) v1 L1 (by omega) (hb1.trans (hb2.mono (by omega))) (HJ.out.ls.below hb2) (List.mem_of_getElem? HX.out) (by omega))
          simp only [EnmV.cells] at HCA
          clear hx hJ hh hb1 hu hbB hb2 hl1 hL1
          go_wp2_with (with_reducible refine HCA.out.mono ?_
                       rintro e w5 ⟨rfl, v5, hl5, hs5⟩
                       have HJ5 := Lib.hid (show MsJ (w.heap.size + 2) w3 (.slice none 0 0) (ms.flatMap qm ++ (es.take (k + 1)).flatMap qe) w5 v5 from ⟨by
                         rw [HFT.out, ← List.append_assoc]
                         rw [show (ms.flatMap qm ++ (es.take k).flatMap qe) = L1 from HLQ.out]
                         exact hl5, HJ.out.st.trans ((LStep.of_below HB2.out).trans hs5)⟩)
                       clear hl5 hs5)
          exact ⟨⟨k + 1, by omega, by simp, Lib.hid ⟨v5, HJ5.out⟩⟩, by simp [intOf]; omega⟩
        · obtain rfl : k = en := by omega
          have hM := hJ
          rw [show es.take k = es from List.take_of_length_le (by rw [HRA.out.e.1]; exact Nat.le_refl _)] at hM
          have HJE := Lib.hid hM
          have hbA := HBA.out.below hu (by omega)
          have d20 := hbA.cell 0
          have d21 := hbA.cell 1
          have d22 := hbA.cell 2
          have la1 := hbA.lt
          have lp1 := hJ.ls.blk.lt
          simp only [List.getElem?_toArray, List.getElem?_cons_zero, List.getElem?_cons_succ] at d20 d21 d22
          clear hM hJ hh hbA hb1 hu
          go_wp2
          go_loopw [37] (fun i wr => ∃ k : Nat, k ≤ sn ∧ i = .int .i64 (k : Int) ∧ Hid (∃ v', MsJ (w.heap.size + 2) w3 (.slice none 0 0) ((ms.flatMap qm ++ es.flatMap qe) ++ (ss.take k).flatMap qs) wr v')) (fun i _ => sn - (intOf i).toNat)
          case atStart => exact ⟨0, Nat.zero_le _, rfl, Lib.hid ⟨_, ⟨by simpa using HJE.out.ls, HJE.out.st⟩⟩⟩
          case round =>
            obtain ⟨k, hk, rfl, hh⟩ := hrel
            obtain ⟨v1, hJ⟩ := hh.out
            have hu := hJ.st.under HL3.out
            have hb1 : Below w.heap.size w wr := HB3.out.trans (hu.mono (by omega))
            by_cases hlt : k < sn
            · obtain ⟨ad, x, e, hx, a0, a1⟩ := (HRA.out.below hb1).u.atS hlt
              have e : sA = some ad := e
              subst e
              have HX := Lib.hid (show ss[k]? = some x from hx)
              have HFT := Lib.hid (flat_take qs ss k x hx)
              have i0 : (0 : Int) ≤ (k : Int) := by omega
              have i1 : (k : Int) < (sn : Int) := by omega
              have hbB := HBB.out.below hu (by omega)
              have d30 := hbB.cell 0
              have d31 := hbB.cell 1
              have d32 := hbB.cell 2
              have ln1 := hbB.lt
              have lp1 := hJ.ls.blk.lt
              simp only [List.getElem?_toArray, List.getElem?_cons_zero, List.getElem?_cons_succ] at d30 d31 d32
              have HJ := Lib.hid hJ
              have hl1 := (show ((ms.flatMap qm ++ es.flatMap qe) ++ (ss.take k).flatMap qs).length ≤ 10000 from by have h1 := HLM.out ms.length; rw [List.take_length] at h1; have h2 := HLE.out es.length; rw [List.take_length] at h2; have h3 := HLS.out k; rw [List.length_append, List.length_append]; omega)
              generalize hL1 : ((ms.flatMap qm ++ es.flatMap qe) ++ (ss.take k).flatMap qs) = L1 at HJ hl1
              have HLQ := Lib.hid hL1
              obtain ⟨xn, xA, xk, xc, xs⟩ := x
              simp only at a0 a1
              have hb2 : Below wr.heap.size wr (wr.alloc (.cells #[.string xn, .slice xA xk xc] 49)) := (Below.refl _ _).alloc (Nat.le_refl _) _
              have HB2 := Lib.hid hb2
              have HCA := Lib.hid (HSE.out (w.heap.size + 2) ⟨xn, xA, xk, xc, xs⟩ (wr.alloc (.cells #[.string xn, .slice xA xk xc] 49)) v1 L1 (by omega) (hb1.trans (hb2.mono (by omega))) (HJ.out.ls.below hb2) (List.mem_of_getElem? HX.out) (by omega))
              simp only [SrvV.cells] at HCA
              clear hx hJ hh hb1 hu hbB hb2 hl1 hL1
              go_wp2_with (with_reducible refine HCA.out.mono ?_
                           rintro e w5 ⟨rfl, v5, hl5, hs5⟩
                           have HJ5 := Lib.hid (show MsJ (w.heap.size + 2) w3 (.slice none 0 0) ((ms.flatMap qm ++ es.flatMap qe) ++ (ss.take (k + 1)).flatMap qs) w5 v5 from ⟨by
                             rw [HFT.out, ← List.append_assoc]
                             rw [show ((ms.flatMap qm ++ es.flatMap qe) ++ (ss.take k).flatMap qs) = L1 from HLQ.out]
                             exact hl5, HJ.out.st.trans ((LStep.of_below HB2.out).trans hs5)⟩)
                           clear hl5 hs5)
              exact ⟨⟨k + 1, by omega, by simp, Lib.hid ⟨v5, HJ5.out⟩⟩, by simp [intOf]; omega⟩
            · obtain rfl : k = sn := by omega
              have hM := hJ
              rw [show ss.take k = ss from List.take_of_length_le (by rw [HRA.out.u.1]; exact Nat.le_refl _)] at hM
              have HJS := Lib.hid hM
              have hbA := HBA.out.below hu (by omega)
              have d20 := hbA.cell 0
              have d21 := hbA.cell 1
              have d22 := hbA.cell 2
              have la1 := hbA.lt
              have lp1 := hJ.ls.blk.lt
              simp only [List.getElem?_toArray, List.getElem?_cons_zero, List.getElem?_cons_succ] at d20 d21 d22
              have HB1 := Lib.hid hb1
              obtain ⟨A7, c7, e7⟩ := hM.ls.form
              obtain ⟨n7, hn7⟩ : ∃ n7, ((ms.flatMap qm ++ es.flatMap qe) ++ ss.flatMap qs).length = n7 := ⟨_, rfl⟩
              rw [hn7] at e7
              subst e7
              have cp7 : wr.cell? ⟨w.heap.size + 2, 0, none⟩ = _ := hM.ls.blk.cell 0
              simp only [List.getElem?_toArray, List.getElem?_cons_zero, List.getElem?_cons_succ] at cp7
              clear hM hJ hh hbA hb1 hu
              go_wp2
              go_ret
              have h7 := HJS.out.ls.own.rs (fun _ => rfl) (by omega)
              refine ⟨_, _, _, rfl, Lib.hid ⟨?_, HB1.out, fun ad e => ?_⟩⟩
              · rw [HBO.out, ← List.append_assoc]
                exact h7
              · have := HJS.out.ls.own.from ad e
                omega
end Go.Proofs.Ytcjcpkjdhagofaa
