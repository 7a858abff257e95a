/-
  Contracts: parleylaw24.two; StampOffsets' walk.
-/
import Derived.Test.YtacmlpgakibdgaaDoorFst
import Derived.IntWalk
namespace Go.Proofs.YtacmlpgakibdgaaDoor
open Go.RowKit Go.Own Go.Own.Dig Go.Own.Alg

theorem digit_cut : ∀ a < 10, ((⟨#[48, 49, 50, 51, 52, 53, 54, 55, 56, 57]⟩ : ByteArray).extract a (a + 1)) = ⟨#[UInt8.ofNat (48 + a)]⟩ := by decide +kernel
theorem two_dgs (n : Nat) (h : n < 100) : dg 2 n = [UInt8.ofNat (48 + n / 10), UInt8.ofNat (48 + n % 10)] := by
  simp only [dg, List.nil_append, List.cons_append]
  rw [Nat.mod_eq_of_lt (show n / 10 < 10 by omega)]

set_option maxHeartbeats 1000000 in
theorem two2_any (n : Nat) (w : World) (hn : n < 100) :
    Calls Tryd.prog 11 #[.int .i64 (n : Int)] w fun e w' => e = .returned (.string ⟨(dg 2 n).toArray⟩) ∧ ∃ k, w' = w.drewN k := by
  obtain ⟨a, ha⟩ : ∃ a, n / 10 = a := ⟨_, rfl⟩
  obtain ⟨b, hb⟩ : ∃ b, n % 10 = b := ⟨_, rfl⟩
  have a10 : a < 10 := by omega
  have b10 : b < 10 := by omega
  have HD : Hid (dg 2 n = [UInt8.ofNat (48 + a), UInt8.ofNat (48 + b)]) := Lib.hid (by rw [two_dgs n hn, ha, hb])
  have d1 : (n : Int).tdiv 10 = (a : Int) := by rw [← ha, Int.tdiv_eq_ediv_of_nonneg (by omega)]; omega
  have d2 : (n : Int).tmod 10 = (b : Int) := by rw [← hb, Int.tmod_eq_emod_of_nonneg (by omega)]; omega
  have e1 : (n : Int) / 10 = (a : Int) := by omega
  have e2 : (n : Int) % 10 = (b : Int) := by omega
  have w1 : IntKind.i64.wrap ((a : Int) + 1) = (a : Int) + 1 := IntWalk.i64_in _ (by omega)
  have w2 : IntKind.i64.wrap ((b : Int) + 1) = (b : Int) + 1 := IntWalk.i64_in _ (by omega)
  have n1 : ((a : Int) + 1).toNat = a + 1 := by omega
  have n2 : ((b : Int) + 1).toNat = b + 1 := by omega
  have c1 := digit_cut a a10
  have c2 := digit_cut b b10
  clear ha hb
  go_enter Tryd.func11, Tryd.ntmps11
  go_wp2_with fail
  go_quiet (fail)
  go_wp2
  go_ret
  exact ⟨by rw [HD.out, UInt8.ofNat_add, UInt8.ofNat_add]; rfl, nq, rfl⟩

theorem by_of2 (H M : Nat) (hH : H < 24) (hM : M < 60) : wrap64 (-wrap64 (-wrap64 (wrap64 ((H : Int) * 3600) + wrap64 ((M : Int) * 60)))) = (H : Int) * 3600 + (M : Int) * 60 := by
  unfold wrap64; omega
/-- What is read of a text with an offset is what Add answers. -/
theorem off_plain {s : Int} {y m d h i e n : Nat} (a : Cal.DateOf s y m d h i e) (hv : okT s n = true) (off : Int) (tl : List UInt8) (h1 : -86400 < off) (h2 : off < 86400)
    (hs : Stops tl) (hp : Lib.hasPrefix tl [46] = false) (hz : rZone (tl, false) = (off, ([], false))) : parseT (timeB y m d h i e n ++ tl) = addT s n off 0 := by
  have hb := of_decide_eq_true hv
  rw [parse_zone a (by omega) off tl hs hp hz]
  have e : addN s n off 0 = (s + off, (n : Int)) := by unfold addN; rw [if_neg (by omega), if_neg (by omega)]; simp
  have ho : okS off 0 = true := by unfold okS; simp; omega
  unfold addT
  rw [e]
  simp only [hv, ho, true_and]

theorem txt_eq (T : List UInt8) (c : UInt8) (a b : List UInt8) : (⟨(T ++ [90]).toArray⟩ : ByteArray).extract 0 T.length ++ (⟨#[c]⟩ : ByteArray) ++ (⟨a.toArray⟩ : ByteArray) ++ (⟨#[58]⟩ : ByteArray) ++ (⟨b.toArray⟩ : ByteArray) = ⟨(T ++ ([c] ++ a ++ ([58] ++ b))).toArray⟩ := by
  apply ByteArray.ext
  apply Array.toList_inj.1
  simp
theorem res_form (ev : Addr) (R : Option (Int × Int)) : ∃ (q1 q2 : Int) (er : Value), resT ev R = .tuple #[.agg #[.int .i64 q1, .int .i64 q2], er] ∧ (er = .nilIface ∨ er = .iface 105 (.pointer (some ev))) := by
  cases R with
  | none => exact ⟨0, 0, _, rfl, Or.inr rfl⟩
  | some r => exact ⟨r.1, r.2, _, rfl, Or.inl rfl⟩
theorem timeB_le (y m d h i e n : Nat) : (timeB y m d h i e n).length ≤ 40 := by
  have : (fracT n).length ≤ 10 := by unfold fracT; (repeat' split) <;> simp [dg_len]
  simp only [timeB, List.length_append, dg_len, List.length_cons, List.length_nil]
  omega
theorem rem_of (h : Int) (N : Nat) (hN : 0 < N) (hN2 : N ≤ 60) : ∃ H : Nat, H < N ∧ (wrap64 (h.tmod (N : Int) + (N : Int))).tmod (N : Int) = (H : Int) := by
  have h1 := Int.tmod_lt_of_pos h (show (0 : Int) < (N : Int) by omega)
  have h2 := Int.lt_tmod_of_pos h (show (0 : Int) < (N : Int) by omega)
  have e : wrap64 (h.tmod (N : Int) + (N : Int)) = h.tmod (N : Int) + (N : Int) := by unfold wrap64; omega
  rw [e, Int.tmod_eq_emod_of_nonneg (by omega)]
  have h3 := Int.emod_nonneg (h.tmod (N : Int) + (N : Int)) (show (N : Int) ≠ 0 by omega)
  have h4 := Int.emod_lt_of_pos (h.tmod (N : Int) + (N : Int)) (show (0 : Int) < (N : Int) by omega)
  exact ⟨((h.tmod (N : Int) + (N : Int)) % (N : Int)).toNat, by omega, by omega⟩
theorem by_of (H M : Nat) (hH : H < 24) (hM : M < 60) : wrap64 (-wrap64 (wrap64 ((H : Int) * 3600) + wrap64 ((M : Int) * 60))) = -((H : Int) * 3600 + (M : Int) * 60) := by
  unfold wrap64; omega

set_option maxHeartbeats 4000000 in
set_option maxRecDepth 100000 in
theorem stampOffsets_no (s n h m : Int) (b : Bool) (w : World) (ev : Addr) (he : EnvS w ev) (hv : okT s n = false) :
    Calls Tryd.prog 4 #[.agg #[.int .i64 s, .int .i64 n], .int .i64 h, .int .i64 m, .bool b] w fun e w' => e = .returned (.bool true) ∧ Below w.heap.size w w' := by
  have HE := Lib.hid he
  have h8 := he.room
  have HV := Lib.hid hv
  clear he hv
  go_enter Tryd.func4, Tryd.ntmps4
  go_wp2_with fail
  have HB0 := Lib.hid ((Below.refl w.heap.size w).alloc (Nat.le_refl _) (.cells #[.int .i64 s, .int .i64 n] 24))
  have HT0 := Lib.hid (Blk.new w 24 #[.int .i64 s, .int .i64 n])
  generalize w.alloc _ = W0 at HB0 HT0 ⊢
  refine (first_any _ ev (by exact HE.out.below HB0.out h8)).mono ?_
  rintro x W1 ⟨rfl, hb⟩
  have HB1 := Lib.hid (HB0.out.trans (hb.mono HB0.out.size))
  have ht := HT0.out.below hb HT0.out.lt
  have t0 : W1.cell? ⟨w.heap.size, 0, none⟩ = some (.int .i64 s) := ht.cell 0
  have t1 : W1.cell? ⟨w.heap.size, 1, none⟩ = some (.int .i64 n) := ht.cell 1
  clear hb HB0 HT0 ht
  go_wp2_with fail
  refine (print_no s n _ ev (by exact HE.out.below HB1.out h8) HV.out).mono ?_
  rintro x W2 ⟨rfl, hb⟩
  unfold resP
  have HB2 := Lib.hid (HB1.out.trans (hb.mono HB1.out.size))
  clear hb HB1 t0 t1
  go_wp2
  go_ret
  exact ⟨rfl, HB2.out⟩

set_option maxHeartbeats 4000000 in
set_option maxRecDepth 100000 in
theorem stampOffsets_more (s : Int) (n : Nat) (h m : Int) (w : World) (ev : Addr) (he : EnvS w ev) (hv : okT s n = true) :
    Calls Tryd.prog 4 #[.agg #[.int .i64 s, .int .i64 (n : Int)], .int .i64 h, .int .i64 m, .bool false] w fun e w' => e = .returned (.bool true) ∧ Below w.heap.size w w' := by
  have HE := Lib.hid he
  have h8 := he.room
  have HV := Lib.hid hv
  clear he hv
  go_enter Tryd.func4, Tryd.ntmps4
  go_wp2_with fail
  have HB0 := Lib.hid ((Below.refl w.heap.size w).alloc (Nat.le_refl _) (.cells #[.int .i64 s, .int .i64 (n : Int)] 24))
  have HT0 := Lib.hid (Blk.new w 24 #[.int .i64 s, .int .i64 (n : Int)])
  generalize w.alloc _ = W0 at HB0 HT0 ⊢
  refine (first_any _ ev (by exact HE.out.below HB0.out h8)).mono ?_
  rintro x W1 ⟨rfl, hb⟩
  have HB1 := Lib.hid (HB0.out.trans (hb.mono HB0.out.size))
  have ht := HT0.out.below hb HT0.out.lt
  have HT1 := Lib.hid ht
  have t0 : W1.cell? ⟨w.heap.size, 0, none⟩ = some (.int .i64 s) := ht.cell 0
  have t1 : W1.cell? ⟨w.heap.size, 1, none⟩ = some (.int .i64 (n : Int)) := ht.cell 1
  clear hb HB0 HT0 ht
  go_wp2_with fail
  refine (print_yes s n _ ev (by exact HE.out.below HB1.out h8) HV.out).mono ?_
  rintro x W2 ⟨y, mo, d, hr, i, e, rfl, hd, hb⟩
  have HD := Lib.hid hd
  have HB2 := Lib.hid (HB1.out.trans (hb.mono HB1.out.size))
  have HT2 := Lib.hid (HT1.out.below hb HT1.out.lt)
  clear hb HB1 t0 t1 hd HT1
  go_wp2_with fail
  obtain ⟨H, hH, e1⟩ := rem_of h 24 (by omega) (by omega)
  obtain ⟨M, hM, e2⟩ := rem_of m 60 (by omega) (by omega)
  have e1' : (wrap64 (h.tmod 24 + 24)).tmod 24 = (H : Int) := e1
  have e2' : (wrap64 (m.tmod 60 + 60)).tmod 60 = (M : Int) := e2
  rw [e1', e2', by_of H M hH hM]
  clear e1 e2 e1' e2'
  have HT := Lib.hid (rfl : timeB y mo d hr i e n = timeB y mo d hr i e n)
  have lT := timeB_le y mo d hr i e n
  generalize hTT : timeB y mo d hr i e n = T at lT ⊢
  have HTT := Lib.hid hTT
  clear hTT HT
  obtain ⟨by', hby⟩ : ∃ q, -((H : Int) * 3600 + (M : Int) * 60) = q := ⟨_, rfl⟩
  rw [hby]
  have HBY := Lib.hid hby
  have hby1 : -86400 < by' := by omega
  have hby2 : by' < 86400 := by omega
  clear hby
  have HQ1 : Hid (∀ k, Calls Tryd.prog 11 #[.int .i64 (H : Int)] (W2.drewN k) fun e w' => e = .returned (.string ⟨(dg 2 H).toArray⟩) ∧ ∃ q, w' = (W2.drewN k).drewN q) := Lib.hid (fun k => two2_any H _ (by omega))
  have HQ2 : Hid (∀ k, Calls Tryd.prog 11 #[.int .i64 (M : Int)] (W2.drewN k) fun e w' => e = .returned (.string ⟨(dg 2 M).toArray⟩) ∧ ∃ q, w' = (W2.drewN k).drewN q) := Lib.hid (fun k => two2_any M _ (by omega))
  have lH := dg_len 2 H
  have lM := dg_len 2 M
  generalize hDH : dg 2 H = DH at HQ1 lH
  generalize hDM : dg 2 M = DM at HQ2 lM
  have lH' : DH.length ≤ 2 := by omega
  have lM' : DM.length ≤ 2 := by omega
  have HDH := Lib.hid hDH
  have HDM := Lib.hid hDM
  clear lH lM hDH hDM
  go_quiet (first | (with_reducible refine Calls.quiet_of (HQ1.out _)) | (with_reducible refine Calls.quiet_of (HQ2.out _)))
  rw [txt_eq T 43 DH DM]
  have HP : Hid (parseT (T ++ ([43] ++ DH ++ ([58] ++ DM))) = addT s n by' 0) := Lib.hid (by
    rw [← HTT.out, ← HBY.out, ← HDH.out, ← HDM.out]
    exact off_plain HD.out HV.out _ _ (by omega) (by omega) (stops_cons _ _ (by decide)) (by rfl) (zone_more H M hH hM))
  have lX : (T ++ ([43] ++ DH ++ ([58] ++ DM))).length ≤ 1000 := by simp; omega
  generalize T ++ ([43] ++ DH ++ ([58] ++ DM)) = X at HP lX ⊢
  have HB3 := Lib.hid (below_drewN HB2.out nq)
  have HT3 := Lib.hid (HT2.out.drewN nq)
  generalize W2.drewN nq = W3 at HB3 HT3 ⊢
  clear HB2 HT2 HQ1 HQ2 lT lH' lM' HTT HDH HDM HBY HD
  go_wp2_with fail
  refine (parse_any X _ ev (by exact HE.out.below HB3.out h8) lX).mono ?_
  rw [HP.out]
  clear HP lX
  rintro x W4 ⟨rfl, hb⟩
  have HB4 := Lib.hid (HB3.out.trans (hb.mono HB3.out.size))
  have HT4 := Lib.hid (HT3.out.below hb HT3.out.lt)
  clear hb HB3 HT3
  have HADD := Lib.hid (fun W (h : EnvS W ev) => add_any s n by' 0 W ev h)
  generalize addT s n by' 0 = R at HADD ⊢
  obtain ⟨q1, q2, er, hR, her⟩ := res_form ev R
  rw [hR] at HADD ⊢
  clear hR
  rcases her with rfl | rfl
  all_goals
    have hs4 := HT4.out.lt
    have t0 : W4.cell? ⟨w.heap.size, 0, none⟩ = some (.int .i64 s) := HT4.out.cell 0
    have t1 : W4.cell? ⟨w.heap.size, 1, none⟩ = some (.int .i64 (n : Int)) := HT4.out.cell 1
    go_wp2_with fail
    have HB5 := Lib.hid (HB4.out.alloc HB4.out.size (.cells #[.int .i64 q1, .int .i64 q2] 24))
    have HU5 := Lib.hid (Blk.new W4 24 #[.int .i64 q1, .int .i64 q2])
    clear HB4 HT4 t0 t1 hs4
    generalize W4.alloc _ = W5 at HB5 HU5 ⊢
    generalize W4.heap.size = gu at *
    refine (HADD.out _ (by exact HE.out.below HB5.out h8)).mono ?_
    rintro x W6 ⟨rfl, hb⟩
    have HB6 := Lib.hid (HB5.out.trans (hb.mono HB5.out.size))
    have HU6 := Lib.hid (HU5.out.below hb HU5.out.lt)
    clear hb HB5 HU5
    have hs6 := HU6.out.lt
    have u0 : W6.cell? ⟨gu, 0, none⟩ = some (.int .i64 q1) := HU6.out.cell 0
    have u1 : W6.cell? ⟨gu, 1, none⟩ = some (.int .i64 q2) := HU6.out.cell 1
    go_wp2_with fail
    go_quiet (fail)
    go_wp2
    go_ret
    exact ⟨rfl, below_drewN (HB6.out.alloc HB6.out.size _) _⟩

set_option maxHeartbeats 4000000 in
set_option maxRecDepth 100000 in
theorem stampOffsets_less (s : Int) (n : Nat) (h m : Int) (w : World) (ev : Addr) (he : EnvS w ev) (hv : okT s n = true) :
    Calls Tryd.prog 4 #[.agg #[.int .i64 s, .int .i64 (n : Int)], .int .i64 h, .int .i64 m, .bool true] w fun e w' => e = .returned (.bool true) ∧ Below w.heap.size w w' := by
  have HE := Lib.hid he
  have h8 := he.room
  have HV := Lib.hid hv
  clear he hv
  go_enter Tryd.func4, Tryd.ntmps4
  go_wp2_with fail
  have HB0 := Lib.hid ((Below.refl w.heap.size w).alloc (Nat.le_refl _) (.cells #[.int .i64 s, .int .i64 (n : Int)] 24))
  have HT0 := Lib.hid (Blk.new w 24 #[.int .i64 s, .int .i64 (n : Int)])
  generalize w.alloc _ = W0 at HB0 HT0 ⊢
  refine (first_any _ ev (by exact HE.out.below HB0.out h8)).mono ?_
  rintro x W1 ⟨rfl, hb⟩
  have HB1 := Lib.hid (HB0.out.trans (hb.mono HB0.out.size))
  have ht := HT0.out.below hb HT0.out.lt
  have HT1 := Lib.hid ht
  have t0 : W1.cell? ⟨w.heap.size, 0, none⟩ = some (.int .i64 s) := ht.cell 0
  have t1 : W1.cell? ⟨w.heap.size, 1, none⟩ = some (.int .i64 (n : Int)) := ht.cell 1
  clear hb HB0 HT0 ht
  go_wp2_with fail
  refine (print_yes s n _ ev (by exact HE.out.below HB1.out h8) HV.out).mono ?_
  rintro x W2 ⟨y, mo, d, hr, i, e, rfl, hd, hb⟩
  have HD := Lib.hid hd
  have HB2 := Lib.hid (HB1.out.trans (hb.mono HB1.out.size))
  have HT2 := Lib.hid (HT1.out.below hb HT1.out.lt)
  clear hb HB1 t0 t1 hd HT1
  go_wp2_with fail
  obtain ⟨H, hH, e1⟩ := rem_of h 24 (by omega) (by omega)
  obtain ⟨M, hM, e2⟩ := rem_of m 60 (by omega) (by omega)
  have e1' : (wrap64 (h.tmod 24 + 24)).tmod 24 = (H : Int) := e1
  have e2' : (wrap64 (m.tmod 60 + 60)).tmod 60 = (M : Int) := e2
  rw [e1', e2', by_of2 H M hH hM]
  clear e1 e2 e1' e2'
  have HT := Lib.hid (rfl : timeB y mo d hr i e n = timeB y mo d hr i e n)
  have lT := timeB_le y mo d hr i e n
  generalize hTT : timeB y mo d hr i e n = T at lT ⊢
  have HTT := Lib.hid hTT
  clear hTT HT
  obtain ⟨by', hby⟩ : ∃ q, (H : Int) * 3600 + (M : Int) * 60 = q := ⟨_, rfl⟩
  rw [hby]
  have HBY := Lib.hid hby
  have hby1 : -86400 < by' := by omega
  have hby2 : by' < 86400 := by omega
  clear hby
  have HQ1 : Hid (∀ k, Calls Tryd.prog 11 #[.int .i64 (H : Int)] (W2.drewN k) fun e w' => e = .returned (.string ⟨(dg 2 H).toArray⟩) ∧ ∃ q, w' = (W2.drewN k).drewN q) := Lib.hid (fun k => two2_any H _ (by omega))
  have HQ2 : Hid (∀ k, Calls Tryd.prog 11 #[.int .i64 (M : Int)] (W2.drewN k) fun e w' => e = .returned (.string ⟨(dg 2 M).toArray⟩) ∧ ∃ q, w' = (W2.drewN k).drewN q) := Lib.hid (fun k => two2_any M _ (by omega))
  have lH := dg_len 2 H
  have lM := dg_len 2 M
  generalize hDH : dg 2 H = DH at HQ1 lH
  generalize hDM : dg 2 M = DM at HQ2 lM
  have lH' : DH.length ≤ 2 := by omega
  have lM' : DM.length ≤ 2 := by omega
  have HDH := Lib.hid hDH
  have HDM := Lib.hid hDM
  clear lH lM hDH hDM
  go_quiet (first | (with_reducible refine Calls.quiet_of (HQ1.out _)) | (with_reducible refine Calls.quiet_of (HQ2.out _)))
  rw [txt_eq T 45 DH DM]
  have HP : Hid (parseT (T ++ ([45] ++ DH ++ ([58] ++ DM))) = addT s n by' 0) := Lib.hid (by
    rw [← HTT.out, ← HBY.out, ← HDH.out, ← HDM.out]
    exact off_plain HD.out HV.out _ _ (by omega) (by omega) (stops_cons _ _ (by decide)) (by rfl) (zone_less H M hH hM))
  have lX : (T ++ ([45] ++ DH ++ ([58] ++ DM))).length ≤ 1000 := by simp; omega
  generalize T ++ ([45] ++ DH ++ ([58] ++ DM)) = X at HP lX ⊢
  have HB3 := Lib.hid (below_drewN HB2.out nq)
  have HT3 := Lib.hid (HT2.out.drewN nq)
  generalize W2.drewN nq = W3 at HB3 HT3 ⊢
  clear HB2 HT2 HQ1 HQ2 lT lH' lM' HTT HDH HDM HBY HD
  go_wp2_with fail
  refine (parse_any X _ ev (by exact HE.out.below HB3.out h8) lX).mono ?_
  rw [HP.out]
  clear HP lX
  rintro x W4 ⟨rfl, hb⟩
  have HB4 := Lib.hid (HB3.out.trans (hb.mono HB3.out.size))
  have HT4 := Lib.hid (HT3.out.below hb HT3.out.lt)
  clear hb HB3 HT3
  have HADD := Lib.hid (fun W (h : EnvS W ev) => add_any s n by' 0 W ev h)
  generalize addT s n by' 0 = R at HADD ⊢
  obtain ⟨q1, q2, er, hR, her⟩ := res_form ev R
  rw [hR] at HADD ⊢
  clear hR
  rcases her with rfl | rfl
  all_goals
    have hs4 := HT4.out.lt
    have t0 : W4.cell? ⟨w.heap.size, 0, none⟩ = some (.int .i64 s) := HT4.out.cell 0
    have t1 : W4.cell? ⟨w.heap.size, 1, none⟩ = some (.int .i64 (n : Int)) := HT4.out.cell 1
    go_wp2_with fail
    have HB5 := Lib.hid (HB4.out.alloc HB4.out.size (.cells #[.int .i64 q1, .int .i64 q2] 24))
    have HU5 := Lib.hid (Blk.new W4 24 #[.int .i64 q1, .int .i64 q2])
    clear HB4 HT4 t0 t1 hs4
    generalize W4.alloc _ = W5 at HB5 HU5 ⊢
    generalize W4.heap.size = gu at *
    refine (HADD.out _ (by exact HE.out.below HB5.out h8)).mono ?_
    rintro x W6 ⟨rfl, hb⟩
    have HB6 := Lib.hid (HB5.out.trans (hb.mono HB5.out.size))
    have HU6 := Lib.hid (HU5.out.below hb HU5.out.lt)
    clear hb HB5 HU5
    have hs6 := HU6.out.lt
    have u0 : W6.cell? ⟨gu, 0, none⟩ = some (.int .i64 q1) := HU6.out.cell 0
    have u1 : W6.cell? ⟨gu, 1, none⟩ = some (.int .i64 q2) := HU6.out.cell 1
    go_wp2_with fail
    go_quiet (fail)
    go_wp2
    go_ret
    exact ⟨rfl, below_drewN (HB6.out.alloc HB6.out.size _) _⟩


theorem stampOffsets_any (s n h m : Int) (b : Bool) (w : World) (ev : Addr) (he : EnvS w ev) :
    Calls Tryd.prog 4 #[.agg #[.int .i64 s, .int .i64 n], .int .i64 h, .int .i64 m, .bool b] w fun e w' => e = .returned (.bool true) ∧ Below w.heap.size w w' := by
  cases hv : okT s n
  · exact stampOffsets_no s n h m b w ev he hv
  · obtain ⟨N, rfl⟩ : ∃ N : Nat, n = (N : Int) := ⟨n.toNat, by have := of_decide_eq_true hv; omega⟩
    cases b
    · exact stampOffsets_more s N h m w ev he hv
    · exact stampOffsets_less s N h m w ev he hv
end Go.Proofs.YtacmlpgakibdgaaDoor
