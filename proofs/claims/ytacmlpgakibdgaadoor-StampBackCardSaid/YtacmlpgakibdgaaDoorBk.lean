/-
  StampBack: its walk.
-/
import Derived.Test.YtacmlpgakibdgaaDoorFst
import Derived.Test.YtacmlpgakibdgaaDoorPs
import Derived.Test.YtacmlpgakibdgaaDoorLex
import Derived.Test.YtacmlpgakibdgaaDoorAlg
import Derived.WalkLawsBesides
namespace Go.Proofs.YtacmlpgakibdgaaDoor
open Go.RowKit Go.Own Go.Own.Dig Go.Own.Alg

/-- What was handed in lies in three boxes. -/
structure BW (w W : World) (a b c d x1 x2 : Int) : Prop where
  below : Below w.heap.size w W
  ga : Blk W w.heap.size 24 #[.int .i64 a, .int .i64 b]
  gb : Blk W (w.heap.size + 1) 24 #[.int .i64 c, .int .i64 d]
  gx : Blk W (w.heap.size + 1 + 1) 32 #[.int .i64 x1, .int .i64 x2]
section
variable {w W W' : World} {a b c d x1 x2 : Int}
theorem BW.step (p : BW w W a b c d x1 x2) (hb : Below W.heap.size W W') : BW w W' a b c d x1 x2 :=
  ⟨p.below.trans (hb.mono p.below.size), p.ga.below hb p.ga.lt, p.gb.below hb p.gb.lt, p.gx.below hb p.gx.lt⟩
theorem BW.alloc (p : BW w W a b c d x1 x2) (o : Obj) : BW w (W.alloc o) a b c d x1 x2 :=
  p.step ((Below.refl _ _).alloc (Nat.le_refl _) o)
theorem BW.first (p : BW w W a b c d x1 x2) : W.cell? ⟨w.heap.size, 0, none⟩ = some (.int .i64 a) ∧ W.cell? ⟨w.heap.size, 1, none⟩ = some (.int .i64 b) := ⟨p.ga.cell 0, p.ga.cell 1⟩
theorem BW.second (p : BW w W a b c d x1 x2) : W.cell? ⟨w.heap.size + 1, 0, none⟩ = some (.int .i64 c) ∧ W.cell? ⟨w.heap.size + 1, 1, none⟩ = some (.int .i64 d) := ⟨p.gb.cell 0, p.gb.cell 1⟩
theorem BW.span (p : BW w W a b c d x1 x2) : W.cell? ⟨w.heap.size + 1 + 1, 0, none⟩ = some (.int .i64 x1) ∧ W.cell? ⟨w.heap.size + 1 + 1, 1, none⟩ = some (.int .i64 x2) := ⟨p.gx.cell 0, p.gx.cell 1⟩
end
theorem box1 (w : World) (o : Obj) (t : TypeId) (cs : Array Value) : Blk ((w.alloc o).alloc (.cells cs t)) (w.heap.size + 1) t cs := by
  have h := Blk.new (w.alloc o) t cs
  rwa [show (w.alloc o).heap.size = w.heap.size + 1 by simp] at h
theorem bw_start (w : World) (a b c d x1 x2 : Int) :
    BW w (((w.alloc (.cells #[.int .i64 a, .int .i64 b] 24)).alloc (.cells #[.int .i64 c, .int .i64 d] 24)).alloc (.cells #[.int .i64 x1, .int .i64 x2] 32)) a b c d x1 x2 := by
  have h0 := Blk.new w 24 #[.int .i64 a, .int .i64 b]
  have h1 := box1 w (.cells #[.int .i64 a, .int .i64 b] 24) 24 #[.int .i64 c, .int .i64 d]
  have h2 := box1 (w.alloc (.cells #[.int .i64 a, .int .i64 b] 24)) (.cells #[.int .i64 c, .int .i64 d] 24) 32 #[.int .i64 x1, .int .i64 x2]
  have e : ∀ (v : World) (o : Obj), (v.alloc o).heap.size = v.heap.size + 1 := fun v o => by simp
  simp only [e] at h1 h2
  refine ⟨?_, (h0.alloc _).alloc _, h1.alloc _, h2⟩
  exact (((Below.refl _ _).alloc (Nat.le_refl _) _).alloc (by simp) _).alloc (by simp; omega) _

theorem spanT_le (s n : Int) (h : okS s n = true) : (spanT s n).length ≤ 1000 := by
  have hv := of_decide_eq_true h
  have h1 := dec_len s.natAbs (by omega)
  have h2 : (fracT n.natAbs).length ≤ 10 := by unfold fracT; (repeat' split) <;> simp [dg_len]
  unfold spanT
  split <;> simp <;> omega
theorem timeB_le2 (y m d h i e n : Nat) : (timeB y m d h i e n ++ [90]).length ≤ 1000 := by
  have : (fracT n).length ≤ 10 := by unfold fracT; (repeat' split) <;> simp [dg_len]
  simp only [timeB, List.length_append, dg_len, List.length_cons, List.length_nil]
  omega
theorem ofIn_of {W : World} {ev : Addr} {g : Nat} {s y m d h i e : Int} (he : EnvS W ev) (hb : Blk W g 3 (sixOf y m d h i e)) (a : Cal.DateOf s y m d h i e) : OfIn W ev g y m d h i e := by
  have b := a.date
  have := Cal.mlen_bd y m
  have := b.y1; have := b.y2; have := b.m1; have := b.m2; have := b.d1; have := b.d2
  have := a.h1; have := a.h2; have := a.i1; have := a.i2; have := a.e1; have := a.e2
  exact ⟨he, hb, by omega, by omega, by omega, by omega, by omega, by omega⟩


set_option maxHeartbeats 4000000 in
set_option maxRecDepth 100000 in
theorem stampBack_nn (a b c d : Int) (va : okT a b = false) (vc : okT c d = false) (x1 x2 : Int) (w : World) (ev : Addr) (he : EnvS w ev) :
    Calls Tryd.prog 5 #[.agg #[.int .i64 a, .int .i64 b], .agg #[.int .i64 c, .int .i64 d], .agg #[.int .i64 x1, .int .i64 x2]] w fun e w' => e = .returned (.bool true) ∧ Below w.heap.size w w' := by
  have HE := Lib.hid he
  have h8 := he.room
  clear he
  go_enter Tryd.func5, Tryd.ntmps5
  go_wp2_with fail
  have P0 := Lib.hid (bw_start w a b c d x1 x2)
  generalize ((w.alloc _).alloc _).alloc _ = W0 at P0 ⊢
  refine (first_any _ ev (by exact HE.out.below P0.out.below h8)).mono ?_
  rintro x W1 ⟨rfl, hb⟩
  have P1 := Lib.hid (P0.out.step hb)
  clear hb P0
  obtain ⟨ca, cb⟩ := P1.out.first
  go_wp2_with fail
  refine (print_no a b _ ev (by exact HE.out.below P1.out.below h8) va).mono ?_
  rintro x W2 ⟨rfl, hb⟩
  unfold resP
  have P2 := Lib.hid (P1.out.step hb)
  clear hb P1
  clear ca cb
  obtain ⟨cc, cd⟩ := P2.out.second
  go_wp2_with fail
  refine (print_no c d _ ev (by exact HE.out.below P2.out.below h8) vc).mono ?_
  rintro x W3 ⟨rfl, hb⟩
  unfold resP
  have P3 := Lib.hid (P2.out.step hb)
  clear hb P2
  clear cc cd
  obtain ⟨sx, sy⟩ := P3.out.span
  have ls := P3.out.gx.lt
  cases hk : okS x1 x2
  · have HK := Lib.hid hk
    clear hk
    go_wp2_with fail

    refine (printSpan_no x1 x2 _ ev (by exact HE.out.below P3.out.below h8) HK.out).mono ?_
    rintro x WA ⟨rfl, hb⟩
    unfold resP
    have PA := Lib.hid (P3.out.step hb)
    clear hb
    go_wp2
    go_ret
    exact ⟨rfl, PA.out.below⟩
  · have HK := Lib.hid hk
    have HL := Lib.hid (spanT_le x1 x2 hk)
    have HS := Lib.hid (span_back hk)
    clear hk
    go_wp2_with fail

    refine (printSpan_yes x1 x2 _ ev (by exact HE.out.below P3.out.below h8) HK.out).mono ?_
    rintro x WA ⟨rfl, hb⟩
    have PA := Lib.hid (P3.out.step hb)
    clear hb
    (try clear sx sy ls)
    generalize spanT x1 x2 = SX at HL HS ⊢
    go_wp2_with fail
    refine (parseSpan_yes SX _ ev (by exact HE.out.below PA.out.below h8) HL.out x1 x2 HS.out).mono ?_
    rintro x WB ⟨rfl, hb⟩
    have PB := Lib.hid (PA.out.step hb)
    clear hb PA
    obtain ⟨sx, sy⟩ := PB.out.span
    have ls := PB.out.gx.lt
    go_wp2
    go_ret
    exact ⟨rfl, PB.out.below.alloc PB.out.below.size _⟩


set_option maxHeartbeats 4000000 in
set_option maxRecDepth 100000 in
theorem stampBack_ny (a b c : Int) (d : Nat) (va : okT a b = false) (vc : okT c d = true) (x1 x2 : Int) (w : World) (ev : Addr) (he : EnvS w ev) :
    Calls Tryd.prog 5 #[.agg #[.int .i64 a, .int .i64 b], .agg #[.int .i64 c, .int .i64 (d : Int)], .agg #[.int .i64 x1, .int .i64 x2]] w fun e w' => e = .returned (.bool true) ∧ Below w.heap.size w w' := by
  have HE := Lib.hid he
  have h8 := he.room
  clear he
  go_enter Tryd.func5, Tryd.ntmps5
  go_wp2_with fail
  have P0 := Lib.hid (bw_start w a b c (d : Int) x1 x2)
  generalize ((w.alloc _).alloc _).alloc _ = W0 at P0 ⊢
  refine (first_any _ ev (by exact HE.out.below P0.out.below h8)).mono ?_
  rintro x W1 ⟨rfl, hb⟩
  have P1 := Lib.hid (P0.out.step hb)
  clear hb P0
  obtain ⟨ca, cb⟩ := P1.out.first
  go_wp2_with fail
  refine (print_no a b _ ev (by exact HE.out.below P1.out.below h8) va).mono ?_
  rintro x W2 ⟨rfl, hb⟩
  unfold resP
  have P2 := Lib.hid (P1.out.step hb)
  clear hb P1
  clear ca cb
  obtain ⟨cc, cd⟩ := P2.out.second
  go_wp2_with fail
  refine (print_yes c d _ ev (by exact HE.out.below P2.out.below h8) vc).mono ?_
  rintro x W3 ⟨y, mo, da, hr, mi, se, rfl, hd, hb⟩
  have HD2 := Lib.hid hd
  have P3 := Lib.hid (P2.out.step hb)
  clear hb P2 hd
  obtain ⟨TB, hTB⟩ : ∃ T, timeB y mo da hr mi se d ++ [90] = T := ⟨_, rfl⟩
  rw [hTB]
  have lTB : TB.length ≤ 1000 := by rw [← hTB]; exact timeB_le2 _ _ _ _ _ _ _
  have HTB := Lib.hid hTB
  clear hTB
  clear cc cd
  obtain ⟨sx, sy⟩ := P3.out.span
  have ls := P3.out.gx.lt
  cases hk : okS x1 x2
  · have HK := Lib.hid hk
    clear hk
    go_wp2_with fail

    refine (printSpan_no x1 x2 _ ev (by exact HE.out.below P3.out.below h8) HK.out).mono ?_
    rintro x WA ⟨rfl, hb⟩
    unfold resP
    have PA := Lib.hid (P3.out.step hb)
    clear hb
    go_wp2
    go_ret
    exact ⟨rfl, PA.out.below⟩
  · have HK := Lib.hid hk
    have HL := Lib.hid (spanT_le x1 x2 hk)
    have HS := Lib.hid (span_back hk)
    clear hk
    go_wp2_with fail

    refine (printSpan_yes x1 x2 _ ev (by exact HE.out.below P3.out.below h8) HK.out).mono ?_
    rintro x WA ⟨rfl, hb⟩
    have PA := Lib.hid (P3.out.step hb)
    clear hb
    (try clear sx sy ls)
    generalize spanT x1 x2 = SX at HL HS ⊢
    go_wp2_with fail
    refine (parseSpan_yes SX _ ev (by exact HE.out.below PA.out.below h8) HL.out x1 x2 HS.out).mono ?_
    rintro x WB ⟨rfl, hb⟩
    have PB := Lib.hid (PA.out.step hb)
    clear hb PA
    obtain ⟨sx, sy⟩ := PB.out.span
    have ls := PB.out.gx.lt
    go_wp2
    go_ret
    exact ⟨rfl, PB.out.below.alloc PB.out.below.size _⟩


set_option maxHeartbeats 4000000 in
set_option maxRecDepth 100000 in
theorem stampBack_yn (a : Int) (b : Nat) (c d : Int) (va : okT a b = true) (vc : okT c d = false) (x1 x2 : Int) (w : World) (ev : Addr) (he : EnvS w ev) :
    Calls Tryd.prog 5 #[.agg #[.int .i64 a, .int .i64 (b : Int)], .agg #[.int .i64 c, .int .i64 d], .agg #[.int .i64 x1, .int .i64 x2]] w fun e w' => e = .returned (.bool true) ∧ Below w.heap.size w w' := by
  have HE := Lib.hid he
  have h8 := he.room
  clear he
  go_enter Tryd.func5, Tryd.ntmps5
  go_wp2_with fail
  have P0 := Lib.hid (bw_start w a (b : Int) c d x1 x2)
  generalize ((w.alloc _).alloc _).alloc _ = W0 at P0 ⊢
  refine (first_any _ ev (by exact HE.out.below P0.out.below h8)).mono ?_
  rintro x W1 ⟨rfl, hb⟩
  have P1 := Lib.hid (P0.out.step hb)
  clear hb P0
  obtain ⟨ca, cb⟩ := P1.out.first
  go_wp2_with fail
  refine (print_yes a b _ ev (by exact HE.out.below P1.out.below h8) va).mono ?_
  rintro x W2 ⟨y1, mo1, da1, hr1, mi1, se1, rfl, hd, hb⟩
  have HD1 := Lib.hid hd
  have P2 := Lib.hid (P1.out.step hb)
  clear hb P1 hd
  obtain ⟨TA, hTA⟩ : ∃ T, timeB y1 mo1 da1 hr1 mi1 se1 b ++ [90] = T := ⟨_, rfl⟩
  rw [hTA]
  have lTA : TA.length ≤ 1000 := by rw [← hTA]; exact timeB_le2 _ _ _ _ _ _ _
  have HTA := Lib.hid hTA
  clear hTA
  have HPB : Hid (parseT TA = some (a, (b : Int))) := Lib.hid (by rw [← HTA.out]; exact parse_back HD1.out (by have := of_decide_eq_true va; omega))
  clear ca cb
  obtain ⟨cc, cd⟩ := P2.out.second
  go_wp2_with fail
  refine (print_no c d _ ev (by exact HE.out.below P2.out.below h8) vc).mono ?_
  rintro x W3 ⟨rfl, hb⟩
  unfold resP
  have P3 := Lib.hid (P2.out.step hb)
  clear hb P2
  clear cc cd
  go_wp2_with fail
  refine (parse_any TA _ ev (by exact HE.out.below P3.out.below h8) lTA).mono ?_
  rw [HPB.out]
  simp only [resT]
  rintro x W4 ⟨rfl, hb⟩
  have P4 := Lib.hid (P3.out.step hb)
  clear hb P3
  obtain ⟨ca, cb⟩ := P4.out.first
  have l4 := P4.out.ga.lt
  go_wp2_with fail
  have P5 := Lib.hid (P4.out.alloc (.cells #[.int .i64 a, .int .i64 (b : Int)] 24))
  have X5 := Lib.hid (Blk.new W4 24 #[.int .i64 a, .int .i64 (b : Int)])
  generalize W4.alloc _ = W5 at P5 X5 ⊢
  generalize W4.heap.size = gx at *
  clear P4 ca cb l4
  refine (date_yes a (b : Int) _ va).mono ?_
  rintro x W6 ⟨g, y0, m0, d0, h0, i0, e0, rfl, hd, hbk, hg, hb⟩
  have P6 := Lib.hid (P5.out.step hb)
  have X6 := Lib.hid (X5.out.below hb X5.out.lt)
  have D6 := Lib.hid hd
  have K6 := Lib.hid hbk
  clear hd hbk hb P5 X5
  go_wp2_with fail
  refine (of_any ev g y0 m0 d0 h0 i0 e0 _ (by exact ofIn_of (HE.out.below P6.out.below h8) K6.out D6.out)).mono ?_
  unfold OfPost
  rw [ofD_date D6.out]
  simp only [resO]
  rintro x W7 ⟨rfl, hb⟩
  have P7 := Lib.hid (P6.out.step hb)
  have X7 := Lib.hid (X6.out.below hb X6.out.lt)
  clear hb P6 X6 D6 K6 hg
  have l7 := P7.out.ga.lt
  have l7x := X7.out.lt
  obtain ⟨ca, cb⟩ := P7.out.first
  obtain ⟨cc, cd⟩ := P7.out.second
  have xa : W7.cell? ⟨gx, 0, none⟩ = some (.int .i64 a) := X7.out.cell 0
  have xb : W7.cell? ⟨gx, 1, none⟩ = some (.int .i64 (b : Int)) := X7.out.cell 1

  obtain ⟨sx, sy⟩ := P7.out.span
  have ls := P7.out.gx.lt
  cases hk : okS x1 x2
  · have HK := Lib.hid hk
    clear hk
    go_wp2_with fail

    have P8 := Lib.hid (P7.out.alloc (.cells #[.int .i64 a, .int .i64 0] 24))
    clear P7 X7 l7 l7x ca cb cc cd xa xb sx sy ls
    generalize W7.alloc _ = W8 at P8 ⊢

    refine (printSpan_no x1 x2 _ ev (by exact HE.out.below P8.out.below h8) HK.out).mono ?_
    rintro x WA ⟨rfl, hb⟩
    unfold resP
    have PA := Lib.hid (P8.out.step hb)
    clear hb
    go_wp2
    go_ret
    exact ⟨rfl, PA.out.below⟩
  · have HK := Lib.hid hk
    have HL := Lib.hid (spanT_le x1 x2 hk)
    have HS := Lib.hid (span_back hk)
    clear hk
    go_wp2_with fail

    have P8 := Lib.hid (P7.out.alloc (.cells #[.int .i64 a, .int .i64 0] 24))
    clear P7 X7 l7 l7x ca cb cc cd xa xb sx sy ls
    generalize W7.alloc _ = W8 at P8 ⊢

    refine (printSpan_yes x1 x2 _ ev (by exact HE.out.below P8.out.below h8) HK.out).mono ?_
    rintro x WA ⟨rfl, hb⟩
    have PA := Lib.hid (P8.out.step hb)
    clear hb
    (try clear sx sy ls)
    generalize spanT x1 x2 = SX at HL HS ⊢
    go_wp2_with fail
    refine (parseSpan_yes SX _ ev (by exact HE.out.below PA.out.below h8) HL.out x1 x2 HS.out).mono ?_
    rintro x WB ⟨rfl, hb⟩
    have PB := Lib.hid (PA.out.step hb)
    clear hb PA
    obtain ⟨sx, sy⟩ := PB.out.span
    have ls := PB.out.gx.lt
    go_wp2
    go_ret
    exact ⟨rfl, PB.out.below.alloc PB.out.below.size _⟩


set_option maxHeartbeats 4000000 in
set_option maxRecDepth 100000 in
theorem stampBack_yy (a : Int) (b : Nat) (c : Int) (d : Nat) (va : okT a b = true) (vc : okT c d = true) (x1 x2 : Int) (w : World) (ev : Addr) (he : EnvS w ev) :
    Calls Tryd.prog 5 #[.agg #[.int .i64 a, .int .i64 (b : Int)], .agg #[.int .i64 c, .int .i64 (d : Int)], .agg #[.int .i64 x1, .int .i64 x2]] w fun e w' => e = .returned (.bool true) ∧ Below w.heap.size w w' := by
  have HE := Lib.hid he
  have h8 := he.room
  clear he
  go_enter Tryd.func5, Tryd.ntmps5
  go_wp2_with fail
  have P0 := Lib.hid (bw_start w a (b : Int) c (d : Int) x1 x2)
  generalize ((w.alloc _).alloc _).alloc _ = W0 at P0 ⊢
  refine (first_any _ ev (by exact HE.out.below P0.out.below h8)).mono ?_
  rintro x W1 ⟨rfl, hb⟩
  have P1 := Lib.hid (P0.out.step hb)
  clear hb P0
  obtain ⟨ca, cb⟩ := P1.out.first
  go_wp2_with fail
  refine (print_yes a b _ ev (by exact HE.out.below P1.out.below h8) va).mono ?_
  rintro x W2 ⟨y1, mo1, da1, hr1, mi1, se1, rfl, hd, hb⟩
  have HD1 := Lib.hid hd
  have P2 := Lib.hid (P1.out.step hb)
  clear hb P1 hd
  obtain ⟨TA, hTA⟩ : ∃ T, timeB y1 mo1 da1 hr1 mi1 se1 b ++ [90] = T := ⟨_, rfl⟩
  rw [hTA]
  have lTA : TA.length ≤ 1000 := by rw [← hTA]; exact timeB_le2 _ _ _ _ _ _ _
  have HTA := Lib.hid hTA
  clear hTA
  have HPB : Hid (parseT TA = some (a, (b : Int))) := Lib.hid (by rw [← HTA.out]; exact parse_back HD1.out (by have := of_decide_eq_true va; omega))
  clear ca cb
  obtain ⟨cc, cd⟩ := P2.out.second
  go_wp2_with fail
  refine (print_yes c d _ ev (by exact HE.out.below P2.out.below h8) vc).mono ?_
  rintro x W3 ⟨y2, mo2, da2, hr2, mi2, se2, rfl, hd, hb⟩
  have HD2 := Lib.hid hd
  have P3 := Lib.hid (P2.out.step hb)
  clear hb P2 hd
  obtain ⟨TB, hTB⟩ : ∃ T, timeB y2 mo2 da2 hr2 mi2 se2 d ++ [90] = T := ⟨_, rfl⟩
  rw [hTB]
  have lTB : TB.length ≤ 1000 := by rw [← hTB]; exact timeB_le2 _ _ _ _ _ _ _
  have HTB := Lib.hid hTB
  clear hTB
  clear cc cd
  go_wp2_with fail
  refine (parse_any TA _ ev (by exact HE.out.below P3.out.below h8) lTA).mono ?_
  rw [HPB.out]
  simp only [resT]
  rintro x W4 ⟨rfl, hb⟩
  have P4 := Lib.hid (P3.out.step hb)
  clear hb P3
  obtain ⟨ca, cb⟩ := P4.out.first
  have l4 := P4.out.ga.lt
  go_wp2_with fail
  have P5 := Lib.hid (P4.out.alloc (.cells #[.int .i64 a, .int .i64 (b : Int)] 24))
  have X5 := Lib.hid (Blk.new W4 24 #[.int .i64 a, .int .i64 (b : Int)])
  generalize W4.alloc _ = W5 at P5 X5 ⊢
  generalize W4.heap.size = gx at *
  clear P4 ca cb l4
  refine (date_yes a (b : Int) _ va).mono ?_
  rintro x W6 ⟨g, y0, m0, d0, h0, i0, e0, rfl, hd, hbk, hg, hb⟩
  have P6 := Lib.hid (P5.out.step hb)
  have X6 := Lib.hid (X5.out.below hb X5.out.lt)
  have D6 := Lib.hid hd
  have K6 := Lib.hid hbk
  clear hd hbk hb P5 X5
  go_wp2_with fail
  refine (of_any ev g y0 m0 d0 h0 i0 e0 _ (by exact ofIn_of (HE.out.below P6.out.below h8) K6.out D6.out)).mono ?_
  unfold OfPost
  rw [ofD_date D6.out]
  simp only [resO]
  rintro x W7 ⟨rfl, hb⟩
  have P7 := Lib.hid (P6.out.step hb)
  have X7 := Lib.hid (X6.out.below hb X6.out.lt)
  clear hb P6 X6 D6 K6 hg
  have l7 := P7.out.ga.lt
  have l7x := X7.out.lt
  obtain ⟨ca, cb⟩ := P7.out.first
  obtain ⟨cc, cd⟩ := P7.out.second
  have xa : W7.cell? ⟨gx, 0, none⟩ = some (.int .i64 a) := X7.out.cell 0
  have xb : W7.cell? ⟨gx, 1, none⟩ = some (.int .i64 (b : Int)) := X7.out.cell 1
  have l7y := P7.out.gb.lt
  by_cases hlen : TA.length = TB.length
  · have hl1 : ((TA.length : Int) == (TB.length : Int)) = true := by simp; omega
    have HLEN := Lib.hid hlen
    clear hlen
    have bb : b < 1000000000 := by have := of_decide_eq_true va; omega
    have dd : d < 1000000000 := by have := of_decide_eq_true vc; omega
    have hless := less_time HD1.out HD2.out bb dd (by rw [HTA.out, HTB.out]; exact HLEN.out)
    have hsame := same_time HD1.out HD2.out bb dd
    rw [HTA.out, HTB.out] at hless hsame
    have HLESS := Lib.hid hless
    have HSAME := Lib.hid hsame
    clear hless hsame bb dd
    go_wp2_with fail
    have P8 := Lib.hid (P7.out.alloc (.cells #[.int .i64 a, .int .i64 0] 24))
    clear P7 X7 l7 l7x ca cb cc cd xa xb l7y hl1 lTA lTB
    generalize W7.alloc _ = W8 at P8 ⊢
    generalize W7.heap.size = gy at *
    refine (cmp_any a (b : Int) c (d : Int) _).mono ?_
    rintro x W9 ⟨rfl, hb⟩
    have P9 := Lib.hid (P8.out.step hb)
    clear hb P8
    have l9 := P9.out.ga.lt
    have l9y := P9.out.gb.lt
    obtain ⟨ca, cb⟩ := P9.out.first
    obtain ⟨cc, cd⟩ := P9.out.second
    rw [HLESS.out]
    have hcase : (a < c ∨ c < a) ∨ (a = c ∧ (b < d ∨ d < b)) ∨ (a = c ∧ b = d) := by omega
    rcases hcase with (h | h) | ⟨rfl, h | h⟩ | ⟨rfl, rfl⟩
    · have e1 : decide (a < c ∨ a = c ∧ b < d) = true := by simp; omega
      have e2 : cmpT a b c d = -1 := by unfold cmpT; rw [if_neg (by omega), if_pos (by omega)]
      have e3 : (TA == TB) = false := by rw [beq_eq_false_iff_ne]; intro h; have := HSAME.out.1 h; omega
      have e4 : (a == c) = false := by simp; omega
      rw [e1, e2]
      clear e1 e2

      obtain ⟨sx, sy⟩ := P9.out.span
      have ls := P9.out.gx.lt
      cases hk : okS x1 x2
      · have HK := Lib.hid hk
        clear hk
        go_wp2_with fail

        refine (printSpan_no x1 x2 _ ev (by exact HE.out.below P9.out.below h8) HK.out).mono ?_
        rintro x WA ⟨rfl, hb⟩
        unfold resP
        have PA := Lib.hid (P9.out.step hb)
        clear hb
        go_wp2
        go_ret
        exact ⟨rfl, PA.out.below⟩
      · have HK := Lib.hid hk
        have HL := Lib.hid (spanT_le x1 x2 hk)
        have HS := Lib.hid (span_back hk)
        clear hk
        go_wp2_with fail

        refine (printSpan_yes x1 x2 _ ev (by exact HE.out.below P9.out.below h8) HK.out).mono ?_
        rintro x WA ⟨rfl, hb⟩
        have PA := Lib.hid (P9.out.step hb)
        clear hb
        (try clear sx sy ls)
        generalize spanT x1 x2 = SX at HL HS ⊢
        go_wp2_with fail
        refine (parseSpan_yes SX _ ev (by exact HE.out.below PA.out.below h8) HL.out x1 x2 HS.out).mono ?_
        rintro x WB ⟨rfl, hb⟩
        have PB := Lib.hid (PA.out.step hb)
        clear hb PA
        obtain ⟨sx, sy⟩ := PB.out.span
        have ls := PB.out.gx.lt
        go_wp2
        go_ret
        exact ⟨rfl, PB.out.below.alloc PB.out.below.size _⟩

    · have e1 : decide (a < c ∨ a = c ∧ b < d) = false := by simp; omega
      have e2 : cmpT a b c d = 1 := by unfold cmpT; rw [if_neg (by omega), if_neg (by omega)]
      have e3 : (TA == TB) = false := by rw [beq_eq_false_iff_ne]; intro h; have := HSAME.out.1 h; omega
      have e4 : (a == c) = false := by simp; omega
      rw [e1, e2]
      clear e1 e2

      obtain ⟨sx, sy⟩ := P9.out.span
      have ls := P9.out.gx.lt
      cases hk : okS x1 x2
      · have HK := Lib.hid hk
        clear hk
        go_wp2_with fail

        refine (printSpan_no x1 x2 _ ev (by exact HE.out.below P9.out.below h8) HK.out).mono ?_
        rintro x WA ⟨rfl, hb⟩
        unfold resP
        have PA := Lib.hid (P9.out.step hb)
        clear hb
        go_wp2
        go_ret
        exact ⟨rfl, PA.out.below⟩
      · have HK := Lib.hid hk
        have HL := Lib.hid (spanT_le x1 x2 hk)
        have HS := Lib.hid (span_back hk)
        clear hk
        go_wp2_with fail

        refine (printSpan_yes x1 x2 _ ev (by exact HE.out.below P9.out.below h8) HK.out).mono ?_
        rintro x WA ⟨rfl, hb⟩
        have PA := Lib.hid (P9.out.step hb)
        clear hb
        (try clear sx sy ls)
        generalize spanT x1 x2 = SX at HL HS ⊢
        go_wp2_with fail
        refine (parseSpan_yes SX _ ev (by exact HE.out.below PA.out.below h8) HL.out x1 x2 HS.out).mono ?_
        rintro x WB ⟨rfl, hb⟩
        have PB := Lib.hid (PA.out.step hb)
        clear hb PA
        obtain ⟨sx, sy⟩ := PB.out.span
        have ls := PB.out.gx.lt
        go_wp2
        go_ret
        exact ⟨rfl, PB.out.below.alloc PB.out.below.size _⟩

    · have e1 : decide (a < a ∨ a = a ∧ b < d) = true := by simp; omega
      have e2 : cmpT a b a d = -1 := by unfold cmpT; rw [if_neg (by omega), if_pos (by omega)]
      have e3 : (TA == TB) = false := by rw [beq_eq_false_iff_ne]; intro h; have := HSAME.out.1 h; omega
      have e4 : ((b : Int) == (d : Int)) = false := by simp; omega
      rw [e1, e2]
      clear e1 e2

      obtain ⟨sx, sy⟩ := P9.out.span
      have ls := P9.out.gx.lt
      cases hk : okS x1 x2
      · have HK := Lib.hid hk
        clear hk
        go_wp2_with fail

        refine (printSpan_no x1 x2 _ ev (by exact HE.out.below P9.out.below h8) HK.out).mono ?_
        rintro x WA ⟨rfl, hb⟩
        unfold resP
        have PA := Lib.hid (P9.out.step hb)
        clear hb
        go_wp2
        go_ret
        exact ⟨rfl, PA.out.below⟩
      · have HK := Lib.hid hk
        have HL := Lib.hid (spanT_le x1 x2 hk)
        have HS := Lib.hid (span_back hk)
        clear hk
        go_wp2_with fail

        refine (printSpan_yes x1 x2 _ ev (by exact HE.out.below P9.out.below h8) HK.out).mono ?_
        rintro x WA ⟨rfl, hb⟩
        have PA := Lib.hid (P9.out.step hb)
        clear hb
        (try clear sx sy ls)
        generalize spanT x1 x2 = SX at HL HS ⊢
        go_wp2_with fail
        refine (parseSpan_yes SX _ ev (by exact HE.out.below PA.out.below h8) HL.out x1 x2 HS.out).mono ?_
        rintro x WB ⟨rfl, hb⟩
        have PB := Lib.hid (PA.out.step hb)
        clear hb PA
        obtain ⟨sx, sy⟩ := PB.out.span
        have ls := PB.out.gx.lt
        go_wp2
        go_ret
        exact ⟨rfl, PB.out.below.alloc PB.out.below.size _⟩

    · have e1 : decide (a < a ∨ a = a ∧ b < d) = false := by simp; omega
      have e2 : cmpT a b a d = 1 := by unfold cmpT; rw [if_neg (by omega), if_neg (by omega)]
      have e3 : (TA == TB) = false := by rw [beq_eq_false_iff_ne]; intro h; have := HSAME.out.1 h; omega
      have e4 : ((b : Int) == (d : Int)) = false := by simp; omega
      rw [e1, e2]
      clear e1 e2

      obtain ⟨sx, sy⟩ := P9.out.span
      have ls := P9.out.gx.lt
      cases hk : okS x1 x2
      · have HK := Lib.hid hk
        clear hk
        go_wp2_with fail

        refine (printSpan_no x1 x2 _ ev (by exact HE.out.below P9.out.below h8) HK.out).mono ?_
        rintro x WA ⟨rfl, hb⟩
        unfold resP
        have PA := Lib.hid (P9.out.step hb)
        clear hb
        go_wp2
        go_ret
        exact ⟨rfl, PA.out.below⟩
      · have HK := Lib.hid hk
        have HL := Lib.hid (spanT_le x1 x2 hk)
        have HS := Lib.hid (span_back hk)
        clear hk
        go_wp2_with fail

        refine (printSpan_yes x1 x2 _ ev (by exact HE.out.below P9.out.below h8) HK.out).mono ?_
        rintro x WA ⟨rfl, hb⟩
        have PA := Lib.hid (P9.out.step hb)
        clear hb
        (try clear sx sy ls)
        generalize spanT x1 x2 = SX at HL HS ⊢
        go_wp2_with fail
        refine (parseSpan_yes SX _ ev (by exact HE.out.below PA.out.below h8) HL.out x1 x2 HS.out).mono ?_
        rintro x WB ⟨rfl, hb⟩
        have PB := Lib.hid (PA.out.step hb)
        clear hb PA
        obtain ⟨sx, sy⟩ := PB.out.span
        have ls := PB.out.gx.lt
        go_wp2
        go_ret
        exact ⟨rfl, PB.out.below.alloc PB.out.below.size _⟩

    · have e1 : decide (a < a ∨ a = a ∧ b < b) = false := by simp
      have e2 : cmpT a b a b = 0 := by unfold cmpT; rw [if_pos ⟨rfl, rfl⟩]
      have e3 : (TA == TB) = true := by rw [beq_iff_eq]; exact HSAME.out.2 ⟨rfl, rfl⟩
      rw [e1, e2]
      clear e1 e2

      obtain ⟨sx, sy⟩ := P9.out.span
      have ls := P9.out.gx.lt
      cases hk : okS x1 x2
      · have HK := Lib.hid hk
        clear hk
        go_wp2_with fail

        refine (printSpan_no x1 x2 _ ev (by exact HE.out.below P9.out.below h8) HK.out).mono ?_
        rintro x WA ⟨rfl, hb⟩
        unfold resP
        have PA := Lib.hid (P9.out.step hb)
        clear hb
        go_wp2
        go_ret
        exact ⟨rfl, PA.out.below⟩
      · have HK := Lib.hid hk
        have HL := Lib.hid (spanT_le x1 x2 hk)
        have HS := Lib.hid (span_back hk)
        clear hk
        go_wp2_with fail

        refine (printSpan_yes x1 x2 _ ev (by exact HE.out.below P9.out.below h8) HK.out).mono ?_
        rintro x WA ⟨rfl, hb⟩
        have PA := Lib.hid (P9.out.step hb)
        clear hb
        (try clear sx sy ls)
        generalize spanT x1 x2 = SX at HL HS ⊢
        go_wp2_with fail
        refine (parseSpan_yes SX _ ev (by exact HE.out.below PA.out.below h8) HL.out x1 x2 HS.out).mono ?_
        rintro x WB ⟨rfl, hb⟩
        have PB := Lib.hid (PA.out.step hb)
        clear hb PA
        obtain ⟨sx, sy⟩ := PB.out.span
        have ls := PB.out.gx.lt
        go_wp2
        go_ret
        exact ⟨rfl, PB.out.below.alloc PB.out.below.size _⟩

  · have hl1 : ((TA.length : Int) == (TB.length : Int)) = false := by simp; omega
    have HLEN := Lib.hid hlen
    clear hlen

    obtain ⟨sx, sy⟩ := P7.out.span
    have ls := P7.out.gx.lt
    cases hk : okS x1 x2
    · have HK := Lib.hid hk
      clear hk
      go_wp2_with fail

      have P8 := Lib.hid (P7.out.alloc (.cells #[.int .i64 a, .int .i64 0] 24))
      clear P7 X7 l7 l7x ca cb cc cd xa xb l7y hl1 sx sy ls
      generalize W7.alloc _ = W8 at P8 ⊢

      refine (printSpan_no x1 x2 _ ev (by exact HE.out.below P8.out.below h8) HK.out).mono ?_
      rintro x WA ⟨rfl, hb⟩
      unfold resP
      have PA := Lib.hid (P8.out.step hb)
      clear hb
      go_wp2
      go_ret
      exact ⟨rfl, PA.out.below⟩
    · have HK := Lib.hid hk
      have HL := Lib.hid (spanT_le x1 x2 hk)
      have HS := Lib.hid (span_back hk)
      clear hk
      go_wp2_with fail

      have P8 := Lib.hid (P7.out.alloc (.cells #[.int .i64 a, .int .i64 0] 24))
      clear P7 X7 l7 l7x ca cb cc cd xa xb l7y hl1 sx sy ls
      generalize W7.alloc _ = W8 at P8 ⊢

      refine (printSpan_yes x1 x2 _ ev (by exact HE.out.below P8.out.below h8) HK.out).mono ?_
      rintro x WA ⟨rfl, hb⟩
      have PA := Lib.hid (P8.out.step hb)
      clear hb
      (try clear sx sy ls)
      generalize spanT x1 x2 = SX at HL HS ⊢
      go_wp2_with fail
      refine (parseSpan_yes SX _ ev (by exact HE.out.below PA.out.below h8) HL.out x1 x2 HS.out).mono ?_
      rintro x WB ⟨rfl, hb⟩
      have PB := Lib.hid (PA.out.step hb)
      clear hb PA
      obtain ⟨sx, sy⟩ := PB.out.span
      have ls := PB.out.gx.lt
      go_wp2
      go_ret
      exact ⟨rfl, PB.out.below.alloc PB.out.below.size _⟩

theorem stampBack_any (a b c d x1 x2 : Int) (w : World) (ev : Addr) (he : EnvS w ev) :
    Calls Tryd.prog 5 #[.agg #[.int .i64 a, .int .i64 b], .agg #[.int .i64 c, .int .i64 d], .agg #[.int .i64 x1, .int .i64 x2]] w fun e w' => e = .returned (.bool true) ∧ Below w.heap.size w w' := by
  cases va : okT a b
  · cases vc : okT c d
    · exact stampBack_nn a b c d va vc x1 x2 w ev he
    · obtain ⟨D, rfl⟩ : ∃ N : Nat, d = (N : Int) := ⟨d.toNat, by have := of_decide_eq_true vc; omega⟩
      exact stampBack_ny a b c D va vc x1 x2 w ev he
  · obtain ⟨B, rfl⟩ : ∃ N : Nat, b = (N : Int) := ⟨b.toNat, by have := of_decide_eq_true va; omega⟩
    cases vc : okT c d
    · exact stampBack_yn a B c d va vc x1 x2 w ev he
    · obtain ⟨D, rfl⟩ : ∃ N : Nat, d = (N : Int) := ⟨d.toNat, by have := of_decide_eq_true vc; omega⟩
      exact stampBack_yy a B c D va vc x1 x2 w ev he

end Go.Proofs.YtacmlpgakibdgaaDoor
