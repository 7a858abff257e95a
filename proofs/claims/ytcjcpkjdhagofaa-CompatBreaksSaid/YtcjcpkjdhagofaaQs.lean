/-
  Contracts: compat's lists of questions, and what is asked of two fields.
-/
import Derived.Test.YtcjcpkjdhagofaaKj
import Derived.Laws.EntriesVeiled
namespace Go.Proofs.Ytcjcpkjdhagofaa
open Go.RowKit Go.Own Go.Own.Cm Go.Shelf
attribute [local go_sem] Oper.semAt_some
/-- A value is a question, from w on. -/
def IsQ (w : World) (v : Value) (p : FldV → FldV → Bool) : Prop :=
  ∃ (K : Nat) (cap : Array Value), v = .func (.func K) #[] cap ∧ Enters Try.prog K ∧ ∀ (f g : FldV) (W : World), Below w.heap.size w W → Calls Try.prog K (#[.agg f.cells, .agg g.cells] ++ cap) W (AskPost (p f g) W)
/-- A slice of questions. -/
def QS (w : World) (A : Option Addr) (n : Nat) (l : List (Int × (FldV → FldV → Bool))) : Prop :=
  l.length = n ∧ ∀ (j : Nat) (q : Int × (FldV → FldV → Bool)), l[j]? = some q → ∃ ad v, A = some ad ∧ ad.block < w.heap.size ∧ w.cell? (ad.add (j * 2)) = some (.int .i64 q.1) ∧ w.cell? ⟨(ad.add (j * 2)).block, (ad.add (j * 2)).off + 1, none⟩ = some v ∧ IsQ w v q.2
theorem Blk.ten {w : World} {g : Nat} {t : TypeId} {f : FldV} (h : Blk w g t f.cells) :
    (w.cell? ⟨g, 0, none⟩ = some (.string f.nm) ∧ w.cell? ⟨g, 1, none⟩ = some (.string f.js) ∧ w.cell? ⟨g, 2, none⟩ = some (.string f.rf) ∧ w.cell? ⟨g, 3, none⟩ = some (.string f.on) ∧ w.cell? ⟨g, 4, none⟩ = some (.int .i64 f.num)) ∧
      (w.cell? ⟨g, 5, none⟩ = some (.int .i64 f.kd) ∧ w.cell? ⟨g, 6, none⟩ = some (.int .i64 f.ky) ∧ w.cell? ⟨g, 7, none⟩ = some (.bool f.rp) ∧ w.cell? ⟨g, 8, none⟩ = some (.bool f.op) ∧ w.cell? ⟨g, 9, none⟩ = some (.bool f.un)) :=
  ⟨⟨h.cell 0, h.cell 1, h.cell 2, h.cell 3, h.cell 4⟩, h.cell 5, h.cell 6, h.cell 7, h.cell 8, h.cell 9⟩
set_option maxHeartbeats 1000000 in
theorem unlike_any (K : Nat) (w : World) : Calls Try.prog 48 #[.func (.func K) #[] #[]] w fun e w' => e = .returned (.func (.func 56) #[] #[.pointer (some ⟨w.heap.size, 0, none⟩)]) ∧ w' = w.alloc (.cells #[.func (.func K) #[] #[]] 39) := by
  go_enter Try.func48, Try.ntmps48
  go_wp2
  go_ret
  exact ⟨rfl, rfl⟩
theorem isQ_plain {w : World} {K : Nat} {p : FldV → FldV → Bool} (hE : Enters Try.prog K) (h : ∀ f g w, Calls Try.prog K #[.agg f.cells, .agg g.cells] w (AskPost (p f g) w)) : IsQ w (.func (.func K) #[] #[]) p :=
  ⟨K, #[], rfl, hE, fun f g W _ => h f g W⟩
theorem askL_drop {f g : FldV} {l : List (Int × (FldV → FldV → Bool))} {k : Nat} {q : Int × (FldV → FldV → Bool)} (h : l[k]? = some q) : askL f g (l.drop k) = if q.2 f g then q.1 else askL f g (l.drop (k + 1)) := by
  obtain ⟨hk, he⟩ := List.getElem?_eq_some_iff.1 h
  rw [List.drop_eq_getElem_cons hk, he]
  rfl
set_option maxHeartbeats 2000000 in
set_option maxRecDepth 100000 in
theorem asked_any (A : Option Addr) (n c : Nat) (l : List (Int × (FldV → FldV → Bool))) (f g : FldV) (w : World) (hn : n ≤ 1000000000) (hq : QS w A n l) :
    Calls Try.prog 37 #[.slice A n c, .agg f.cells, .agg g.cells] w (WhyPost (askL f g l) w) := by
  have HQ := Lib.hid hq
  clear hq
  have HW : ∃ w0, w0 = (w.alloc (.cells f.cells 42)).alloc (.cells g.cells 42) ∧ Below w.heap.size w w0 ∧ Blk w0 w.heap.size 42 f.cells ∧ Blk w0 (w.heap.size + 1) 42 g.cells :=
    ⟨_, rfl, ((Below.refl _ _).alloc (Nat.le_refl _) _).alloc (by simp) _, (Blk.new w _ _).alloc _, by simpa using Blk.new (w.alloc (.cells f.cells 42)) 42 g.cells⟩
  obtain ⟨w0, e0, W1, W3, W4⟩ := HW
  have HB0 := Lib.hid W1
  have HF0 := Lib.hid W3
  have HG0 := Lib.hid W4
  have HE0 := Lib.hid e0
  clear W1 W3 W4 e0
  have HCalls : Hid (∀ v p, IsQ w v p → ∀ W, Below w0.heap.size w0 W → ∃ K cap, v = .func (.func K) #[] cap ∧ Enters Try.prog K ∧ Calls Try.prog K (#[.agg f.cells, .agg g.cells] ++ cap) W (AskPost (p f g) W)) := Lib.hid (by
    rintro v p ⟨K, cap, e, hE, hc⟩ W hW
    exact ⟨K, cap, e, hE, hc f g W (HB0.out.trans (hW.mono HB0.out.size))⟩)
  have HP : Hid (∀ b, askL f g l = b → ∀ w', Below w0.heap.size w0 w' → WhyPost (askL f g l) w (.returned (.int .i64 b)) w') := Lib.hid (by rintro b rfl w' h; exact ⟨rfl, HB0.out.trans (h.mono HB0.out.size)⟩)
  have HD : Hid (∀ k q, l[k]? = some q → askL f g (l.drop k) = if q.2 f g then q.1 else askL f g (l.drop (k + 1))) := Lib.hid fun k q h => askL_drop h
  have HN : Hid (∀ k, n ≤ k → askL f g (l.drop k) = 0) := Lib.hid fun k hk => by rw [List.drop_of_length_le (by rw [HQ.out.1]; exact hk)]; rfl
  generalize hA : askL f g = ask at *
  have HF10 : Hid (∀ W, Below w0.heap.size w0 W → Blk W w.heap.size 42 f.cells ∧ Blk W (w.heap.size + 1) 42 g.cells) := Lib.hid fun W hW => ⟨HF0.out.below hW HF0.out.lt, HG0.out.below hW HG0.out.lt⟩
  obtain ⟨qf, hqf⟩ : ∃ qf : (FldV → FldV → Bool) → Bool, qf = fun p => p f g := ⟨_, rfl⟩
  have HCalls2 : Hid (∀ v p, IsQ w v p → ∀ W, Below w0.heap.size w0 W → ∃ K cap, v = .func (.func K) #[] cap ∧ Enters Try.prog K ∧ Calls Try.prog K (#[.agg f.cells, .agg g.cells] ++ cap) W (AskPost (qf p) W)) := by rw [hqf]; exact HCalls
  have HD2 : Hid (∀ k q, l[k]? = some q → ask (l.drop k) = if qf q.2 then q.1 else ask (l.drop (k + 1))) := by rw [hqf]; exact HD
  clear hqf hA HCalls HD
  obtain ⟨n1, n2, n3, n4, a, b, c, p, q, r⟩ := f
  obtain ⟨m1, m2, m3, m4, a', b', c', p', q', r'⟩ := g
  simp only [FldV.cells] at HE0 HCalls2 HF10 ⊢
  go_enter Try.func37, Try.ntmps37
  go_wp2
  rw [← HE0.out]
  go_loopw [11] (fun i wr => ∃ k : Nat, k ≤ n ∧ i = .int .i64 (k : Int) ∧ Hid (Below w0.heap.size w0 wr ∧ ask l = ask (l.drop k))) (fun i _ => n - (intOf i).toNat)
  case atStart => exact ⟨0, by omega, rfl, Lib.hid ⟨Below.refl _ _, rfl⟩⟩
  case round =>
    obtain ⟨k, hk, rfl, hh⟩ := hrel
    by_cases hlt : k < n
    · obtain ⟨qq, hx⟩ : ∃ qq, l[k]? = some qq := ⟨_, List.getElem?_eq_getElem (by rw [HQ.out.1]; exact hlt)⟩
      obtain ⟨ad, v, rfl, hbl, a0, a1, hv⟩ := HQ.out.2 _ _ hx
      have HB : Below w.heap.size w wr := HB0.out.trans (hh.out.1.mono HB0.out.size)
      have a0 := (HB.cell (by rw [add_block]; exact hbl)).trans a0
      have a1 := (HB.cell (by show (ad.add (k * 2)).block < _; rw [add_block]; exact hbl)).trans a1
      have HV := Lib.hid hv
      have HX := Lib.hid hx
      have HBw := Lib.hid HB
      obtain ⟨qw, qp⟩ := qq
      simp only at a0 HV
      clear hx hv hbl HB
      obtain ⟨wc, hwc⟩ : ∃ wc, wc = wr.alloc (.cells #[.int .i64 qw, v] 89) := ⟨_, rfl⟩
      have HC1 := Lib.hid (show Below w0.heap.size w0 wc by rw [hwc]; exact hh.out.1.alloc hh.out.1.size _)
      obtain ⟨K, cap, rfl, hE, hc⟩ := HCalls2.out v qp HV.out wc HC1.out
      rw [hwc] at hc
      have HCC := Lib.hid hc
      have HWC := Lib.hid hwc
      clear hc hwc
      obtain ⟨⟨k0, k1, k2, k3, k4⟩, k5, k6, k7, k8, k9⟩ := Blk.ten (f := ⟨n1, n2, n3, n4, a, b, c, p, q, r⟩) (HF10.out wr hh.out.1).1
      obtain ⟨⟨j0, j1, j2, j3, j4⟩, j5, j6, j7, j8, j9⟩ := Blk.ten (f := ⟨m1, m2, m3, m4, a', b', c', p', q', r'⟩) (HF10.out wr hh.out.1).2
      simp only at k0 k1 k2 k3 k4 k5 k6 k7 k8 k9 j0 j1 j2 j3 j4 j5 j6 j7 j8 j9
      have i0 : (0 : Int) ≤ (k : Int) := by omega
      have i1 : (k : Int) < (n : Int) := by omega
      obtain ⟨bq, hbq⟩ : ∃ b, qf qp = b := ⟨_, rfl⟩
      rw [hbq] at HCC
      have HBQ := Lib.hid hbq
      clear hbq
      have hE' : ∀ args w, (callFunc K args).run Try.prog w = .ok (.enter K args) w := hE
      have l0 : w.heap.size < wr.heap.size := (HF10.out wr hh.out.1).1.lt
      have l1 : w.heap.size + 1 < wr.heap.size := (HF10.out wr hh.out.1).2.lt
      rcases bq with _ | _
      · go_wp2_with (with_reducible refine HCC.out.mono ?_
                     rintro e w2 ⟨rfl, h2⟩
                     have HB2 := Lib.hid (HC1.out.trans (by rw [HWC.out]; exact h2.mono (by rw [← HWC.out]; exact HC1.out.size)))
                     clear h2)
        have HNx := Lib.hid (HD2.out _ _ HX.out)
        rw [HBQ.out] at HNx
        exact ⟨⟨k + 1, hlt, by go_num, Lib.hid ⟨HB2.out, hh.out.2.trans HNx.out⟩⟩, by simp [intOf]; omega⟩
      · go_wp2_with (with_reducible refine HCC.out.mono ?_
                     rintro e w2 ⟨rfl, h2⟩
                     have HB2 := Lib.hid (HC1.out.trans (by rw [HWC.out]; exact h2.mono (by rw [← HWC.out]; exact HC1.out.size)))
                     have q0 : w2.cell? ⟨wr.heap.size, 0, none⟩ = some (.int .i64 qw) := ((Blk.new wr _ _).below h2 (by simp)).cell 0
                     clear h2)
        have HNx := Lib.hid (HD2.out _ _ HX.out)
        rw [HBQ.out] at HNx
        go_ret
        exact HP.out _ (hh.out.2.trans HNx.out) _ HB2.out
    · have HNx := Lib.hid (hh.out.2.trans (HN.out k (by omega)))
      obtain rfl : k = n := by omega
      go_wp2
      go_ret
      exact HP.out _ HNx.out _ hh.out.1
/-- compat.wire: the questions for the wire. -/
theorem isQ_unlike {w : World} {gb K : Nat} {p : FldV → FldV → Bool} (hb : Blk w gb 39 #[.func (.func K) #[] #[]])
    (h : ∀ f g w, Blk w gb 39 #[.func (.func K) #[] #[]] → Calls Try.prog 56 #[.agg f.cells, .agg g.cells, .pointer (some ⟨gb, 0, none⟩)] w (AskPost (p f g) w)) :
    IsQ w (.func (.func 56) #[] #[.pointer (some ⟨gb, 0, none⟩)]) p :=
  ⟨_, _, rfl, enters_of Try.func56 (by kernel_rfl) rfl, fun f g W hW => h f g W (hb.below hW hb.lt)⟩
theorem IsQ.below {w w' : World} {v : Value} {p : FldV → FldV → Bool} (h : IsQ w v p) (hb : Below w.heap.size w w') : IsQ w' v p := by
  obtain ⟨K, cap, e, hE, hc⟩ := h
  exact ⟨K, cap, e, hE, fun f g W hW => hc f g W (hb.trans (hW.mono hb.size))⟩
theorem qs_of {w : World} {g n : Nat} {l : List (Int × (FldV → FldV → Bool))} {cs : Array Value} (hb : Blk w g 89 cs) (hl : l.length = n)
    (h : ∀ j q, l[j]? = some q → ∃ v, cs[j * 2]? = some (.int .i64 q.1) ∧ cs[j * 2 + 1]? = some v ∧ IsQ w v q.2) : QS w (some ⟨g, 0, none⟩) n l :=
  ⟨hl, fun j q hq => by
    obtain ⟨v, h1, h2, h3⟩ := h j q hq
    have e : (⟨g, 0, none⟩ : Addr).add (j * 2) = ⟨g, j * 2, none⟩ := by
      unfold Addr.add; split
      · rename_i h0; rw [h0]
      · simp
    refine ⟨⟨g, 0, none⟩, v, rfl, hb.lt, ?_, ?_, h3⟩
    · rw [e]; exact (hb.cell (j * 2)).trans h1
    · rw [e]; exact (hb.cell (j * 2 + 1)).trans h2⟩
set_option maxHeartbeats 2000000 in
set_option maxRecDepth 100000 in
theorem wireQ_any (w : World) : Calls Try.prog 38 #[] w fun e w' => ∃ A c, e = .returned (.slice A 4 c) ∧ Hid (QS w' A 4 wireQ ∧ Below w.heap.size w w') := by
  have HE1 := enters_of (P := Try.prog) Try.func49 (by kernel_rfl) rfl
  have HE2 := enters_of (P := Try.prog) Try.func50 (by kernel_rfl) rfl
  have HE3 := enters_of (P := Try.prog) Try.func51 (by kernel_rfl) rfl
  have H1 := Lib.hid HE1
  have H2 := Lib.hid HE2
  have H3 := Lib.hid HE3
  clear HE1 HE2 HE3
  have HU := Lib.hid (unlike_any 14 w)
  go_enter Try.func38, Try.ntmps38
  go_wp2_with (with_reducible refine HU.out.mono ?_
               rintro e w2 ⟨rfl, rfl⟩)
  go_ret
  have hb0 : Blk (w.alloc (.cells #[.func (.func 14) #[] #[]] 39)) w.heap.size 39 #[.func (.func 14) #[] #[]] := Blk.new _ _ _
  have hb1 := hb0.alloc (.cells #[.int .i64 2, .func (.func 56) #[] #[.pointer (some ⟨w.heap.size, 0, none⟩)], .int .i64 3, .func (.func 49) #[] #[], .int .i64 4, .func (.func 50) #[] #[], .int .i64 8, .func (.func 51) #[] #[]] 89)
  refine ⟨_, _, rfl, Lib.hid ⟨?_, ((Below.refl _ _).alloc (Nat.le_refl _) _).alloc (by simp) _⟩⟩
  refine qs_of (by simpa using Blk.new (w.alloc (.cells #[.func (.func 14) #[] #[]] 39)) _ _) rfl ?_
  intro j q hq
  have hj : j < 4 := (List.getElem?_eq_some_iff.1 hq).1
  have : j = 0 ∨ j = 1 ∨ j = 2 ∨ j = 3 := by omega
  rcases this with rfl | rfl | rfl | rfl <;> cases hq
  · exact ⟨_, rfl, rfl, isQ_unlike hb1 fun f g w h => unlikeF_any f g _ w h⟩
  · exact ⟨_, rfl, rfl, isQ_plain H1.out fun f g w => labelC_any f g w⟩
  · exact ⟨_, rfl, rfl, isQ_plain H2.out fun f g w => refW_any f g w⟩
  · exact ⟨_, rfl, rfl, isQ_plain H3.out fun f g w => oneof_any f g w⟩
set_option maxHeartbeats 2000000 in
set_option maxRecDepth 100000 in
theorem jsonQ_any (w : World) : Calls Try.prog 39 #[] w fun e w' => ∃ A c, e = .returned (.slice A 5 c) ∧ Hid (QS w' A 5 jsonQ ∧ Below w.heap.size w w') := by
  have HE1 := enters_of (P := Try.prog) Try.func49 (by kernel_rfl) rfl
  have HE2 := enters_of (P := Try.prog) Try.func53 (by kernel_rfl) rfl
  have HE3 := enters_of (P := Try.prog) Try.func51 (by kernel_rfl) rfl
  have HE4 := enters_of (P := Try.prog) Try.func54 (by kernel_rfl) rfl
  have H1 := Lib.hid HE1
  have H2 := Lib.hid HE2
  have H3 := Lib.hid HE3
  have H4 := Lib.hid HE4
  clear HE1 HE2 HE3 HE4
  have HU := Lib.hid (unlike_any 52 w)
  go_enter Try.func39, Try.ntmps39
  go_wp2_with (with_reducible refine HU.out.mono ?_
               rintro e w2 ⟨rfl, rfl⟩)
  go_ret
  have hb0 : Blk (w.alloc (.cells #[.func (.func 52) #[] #[]] 39)) w.heap.size 39 #[.func (.func 52) #[] #[]] := Blk.new _ _ _
  have hb1 := hb0.alloc (.cells #[.int .i64 2, .func (.func 56) #[] #[.pointer (some ⟨w.heap.size, 0, none⟩)], .int .i64 3, .func (.func 49) #[] #[], .int .i64 4, .func (.func 53) #[] #[], .int .i64 8, .func (.func 51) #[] #[], .int .i64 5, .func (.func 54) #[] #[]] 89)
  refine ⟨_, _, rfl, Lib.hid ⟨?_, ((Below.refl _ _).alloc (Nat.le_refl _) _).alloc (by simp) _⟩⟩
  refine qs_of (by simpa using Blk.new (w.alloc (.cells #[.func (.func 52) #[] #[]] 39)) _ _) rfl ?_
  intro j q hq
  have hj : j < 5 := (List.getElem?_eq_some_iff.1 hq).1
  have : j = 0 ∨ j = 1 ∨ j = 2 ∨ j = 3 ∨ j = 4 := by omega
  rcases this with rfl | rfl | rfl | rfl | rfl <;> cases hq
  · exact ⟨_, rfl, rfl, isQ_unlike hb1 fun f g w h => unlikeS_any f g _ w h⟩
  · exact ⟨_, rfl, rfl, isQ_plain H1.out fun f g w => labelC_any f g w⟩
  · exact ⟨_, rfl, rfl, isQ_plain H2.out fun f g w => refC_any f g w⟩
  · exact ⟨_, rfl, rfl, isQ_plain H3.out fun f g w => oneof_any f g w⟩
  · exact ⟨_, rfl, rfl, isQ_plain H4.out fun f g w => name_any f g w⟩
end Go.Proofs.Ytcjcpkjdhagofaa
