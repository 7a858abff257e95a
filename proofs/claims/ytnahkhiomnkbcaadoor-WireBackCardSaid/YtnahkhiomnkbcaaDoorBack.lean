/-
  WireBack: whatever is written is read back, whatever stands behind: the walk.
-/
import Derived.Test.YtnahkhiomnkbcaaDoorRead
import Derived.OpenShut
namespace Go.Proofs.YtnahkhiomnkbcaaDoor
open Go.RowKit Go.Own Go.Own.Wire

theorem rd_nil (w : World) (B : Nat) : Rd w B none 0 [] := ⟨rfl, fun h => absurd h (by omega)⟩

set_option maxHeartbeats 1000000 in
set_option maxRecDepth 100000 in
/-- Where something is too long. -/
theorem wireBack_long (u n f k : Int) (A A2 : Option Addr) (na ca nb cb : Nat) (w : World) (ea : Nat → Addr) (he : Env w ea) (hl : 16384 < na ∨ 16384 < nb) :
    Calls Tryd.prog 7 #[.int .u64 u, .int .i64 n, .int .i64 f, .int .i64 k, .slice A na ca, .slice A2 nb cb] w fun e w' => e = .returned (.bool true) ∧ Below w.heap.size w w' := by
  have HE := Lib.hid he
  clear he
  go_enter Tryd.func7, Tryd.ntmps7
  go_wp2_with fail
  refine (first_any _ ea HE.out).mono ?_
  rintro e w1 ⟨rfl, hb1⟩
  have HB1 := Lib.hid hb1
  clear hb1
  by_cases ha : 16384 < na
  · go_wp2
    go_ret
    exact ⟨rfl, HB1.out⟩
  · have hb : 16384 < nb := by omega
    clear hl
    go_wp2
    go_ret
    exact ⟨rfl, HB1.out⟩

theorem untag_zero : untag 0 = .error 103 := rfl
theorem untag_tag (f k : Nat) (h1 : 1 ≤ f) (h2 : f ≤ 536870911) (h3 : k ≤ 5) : untag (f * 8 + k) = .ok (f, k) := by
  have e1 : (f * 8 + k) / 8 = f := by omega
  have e2 : (f * 8 + k) % 8 = k := by omega
  unfold untag
  rw [e1, e2, if_neg (by omega)]
theorem put_len {f k u : Nat} {b p : List UInt8} (h : putE f k u b = .ok p) : p.length ≤ b.length + 30 := by
  have v1 := venc_len (f * 8 + k)
  have v2 := venc_len u
  have v3 := venc_len b.length
  have v4 := venc_len (f * 8 + k + 1)
  unfold putE at h
  split at h
  · cases h
  · split at h
    · simp only [Except.ok.injEq] at h; subst h; rw [List.length_append]; omega
    · split at h
      · simp only [Except.ok.injEq] at h; subst h; rw [List.length_append, fixE_len]; omega
      · split at h
        · simp only [Except.ok.injEq] at h; subst h; rw [List.length_append, fixE_len]; omega
        · split at h
          · simp only [Except.ok.injEq] at h; subst h; rw [List.length_append, List.length_append]; omega
          · split at h
            · split at h
              · simp only [Except.ok.injEq] at h; subst h; rw [List.length_append, List.length_append]; omega
              · cases h
            · cases h
theorem fix4_back (u : Nat) (hu : u < 18446744073709551616) (lx : List UInt8) : ∃ x4 : Nat, fixd 4 (fixE 4 u ++ lx) = .ok (x4, 4) ∧ bits .and .u64 (u : Int) 4294967295 = (x4 : Int) := by
  refine ⟨u % 4294967296, ?_, ?_⟩
  · unfold fixd
    rw [if_neg (by rw [List.length_append, fixE_len]; omega), le_fixE]
  · have := u64_and_nat u 4294967295 hu (by decide)
    rw [show ((4294967295 : Nat) : Int) = 4294967295 from rfl] at this
    rw [this, show u &&& 4294967295 = u % 4294967296 from Nat.and_two_pow_sub_one_eq_mod u 32]
theorem fix8_back (u : Nat) (hu : u < 18446744073709551616) (lx : List UInt8) : fixd 8 (fixE 8 u ++ lx) = .ok (u, 8) := by
  unfold fixd
  rw [if_neg (by rw [List.length_append, fixE_len]; omega), le_fixE, Nat.mod_eq_of_lt (by simpa using hu)]

set_option maxHeartbeats 4000000 in
set_option maxRecDepth 100000 in
theorem wireBack_any (u : Nat) (n f k : Int) (A A2 : Option Addr) (na ca nb cb : Nat) (la lb : List UInt8) (w : World) (ea : Nat → Addr) (he : Env w ea) (hra : Rd w w.heap.size A na la) (hrb : Rd w w.heap.size A2 nb lb)
    (hu : u < 18446744073709551616) (hn1 : -9223372036854775808 ≤ n) (hn2 : n ≤ 9223372036854775807) (hna : na ≤ 16384) (hnb : nb ≤ 16384) (hnca : na ≤ ca) (hncb : nb ≤ cb) :
    Calls Tryd.prog 7 #[.int .u64 (u : Int), .int .i64 n, .int .i64 f, .int .i64 k, .slice A na ca, .slice A2 nb cb] w fun e w' => e = .returned (.bool true) ∧ Below w.heap.size w w' := by
  have HE := Lib.hid he
  have h8 := he.room
  have HRa := Lib.hid hra
  have HRb := Lib.hid hrb
  have HLa := Lib.hid hra.len
  have HLb := Lib.hid hrb.len
  clear he hra hrb
  have ta : ¬ (16384 : Int) < (na : Int) := by omega
  have tb : ¬ (16384 : Int) < (nb : Int) := by omega
  have hvu := venc_len u
  obtain ⟨x4, hf4, hand⟩ := fix4_back u hu lb
  have HF4 := Lib.hid hf4
  have HF8 := Lib.hid (fix8_back u hu lb)
  have HUV := Lib.hid (uvar_venc u lb hu)
  have HZ := Lib.hid (zag_zig n)
  have HZL := Lib.hid (zig_lt n hn1 hn2)
  clear hf4
  go_enter Tryd.func7, Tryd.ntmps7
  go_wp2_with fail
  refine (first_any _ ea HE.out).mono ?_
  rintro e w1 ⟨rfl, hb1⟩
  have HB1 := Lib.hid hb1
  have hs1 := hb1.size
  clear hb1
  go_wp2_with fail
  refine (varint_any none 0 0 u [] _ w1.heap.size (rd_nil _ _) (by exact Nat.le_refl _) (by omega) hu).mono ?_
  rintro e w2 ⟨rfl, ho2, hb2⟩
  have HB2 := Lib.hid (HB1.out.trans (hb2.mono hs1))
  have hs2 := HB2.out.size
  have HO2 : Hid (Ow w2 w.heap.size 5 (.slice (some ⟨w1.heap.size, 0, none⟩) (venc u).length 10) (venc u).length (venc u)) := Lib.hid (by have h := ho2.base (base' := w.heap.size) hs1; simpa using h)
  clear ho2 hb2
  go_wp2_with (first
    | (at_builtin
       refine wpList_app_any _ byteP rfl (.tmp 49) (.tmp 50) rfl w.heap.size (.slice (some ⟨w1.heap.size, 0, none⟩) (venc u).length 10) (venc u).length (venc u) rfl HO2.out w.heap.size A2 nb cb lb rfl (HRb.out.below HB2.out) ?_ ?_ ?_
       · omega
       · omega
       intro A3 c3 w3 ho3 hg3 hat3 hc3 hm3
       have HB3 := Lib.hid (HB2.out.grown hg3 hs2 (fun g hg => by simp [Value.ownBlock] at hg; omega))
       have HO3 := Lib.hid ho3.rd
       clear ho3 hg3 hat3 hm3))
  have hs3 := HB3.out.size
  refine (uvarint_any A3 _ c3 (venc u ++ lb) _ ea w3.heap.size (by exact HE.out.below HB3.out h8) (by exact HO3.out) (by omega)).mono ?_
  rw [HUV.out]
  rintro e w4 ⟨rfl, m4, hw4⟩
  have HB4 : Hid (Below w.heap.size w w4) := Lib.hid (hw4 ▸ below_drewN HB3.out m4)
  have hs4 := HB4.out.size
  clear hw4 HB2 HB3 HO2 HO3 hs2 hs3
  simp only [uvRes]
  go_wp2_with fail
  refine (fixed_4 none 0 0 u [] _ w4.heap.size (rd_nil _ _) (by exact Nat.le_refl _) (by omega) hu).mono ?_
  rintro e w5 ⟨rfl, ho5, hb5⟩
  have HB5 := Lib.hid (HB4.out.trans (hb5.mono hs4))
  have hs5 := HB5.out.size
  have HO5 : Hid (Ow w5 w.heap.size 5 (.slice (some ⟨w4.heap.size, 0, none⟩) 4 8) 4 (fixE 4 u)) := Lib.hid (by have h := ho5.base (base' := w.heap.size) hs4; simpa using h)
  clear ho5 hb5
  go_wp2_with (first
    | (at_builtin
       refine wpList_app_any _ byteP rfl (.tmp 58) (.tmp 59) rfl w.heap.size (.slice (some ⟨w4.heap.size, 0, none⟩) 4 8) 4 (fixE 4 u) rfl HO5.out w.heap.size A2 nb cb lb rfl (HRb.out.below HB5.out) ?_ ?_ ?_
       · omega
       · omega
       intro A6 c6 w6 ho6 hg6 hat6 hc6 hm6
       have HB6 := Lib.hid (HB5.out.grown hg6 hs5 (fun g hg => by simp [Value.ownBlock] at hg; omega))
       have HO6 := Lib.hid ho6.rd
       clear ho6 hg6 hat6 hm6))
  have hs6 := HB6.out.size
  refine (unfixed_4 A6 _ c6 (fixE 4 u ++ lb) _ ea w6.heap.size (by exact HE.out.below HB6.out h8) (by exact HO6.out) (by omega)).mono ?_
  rw [HF4.out]
  rintro e w7 ⟨rfl, m7, hw7⟩
  have HB7 : Hid (Below w.heap.size w w7) := Lib.hid (hw7 ▸ below_drewN HB6.out m7)
  have hs7 := HB7.out.size
  clear hw7 HB5 HB6 HO5 HO6 hs5 hs6
  simp only [uvRes]
  go_wp2_with fail
  refine (fixed_8 none 0 0 u [] _ w7.heap.size (rd_nil _ _) (by exact Nat.le_refl _) (by omega) hu).mono ?_
  rintro e w8 ⟨rfl, ho8, hb8⟩
  have HB8 := Lib.hid (HB7.out.trans (hb8.mono hs7))
  have hs8 := HB8.out.size
  have HO8 : Hid (Ow w8 w.heap.size 5 (.slice (some ⟨w7.heap.size, 0, none⟩) 8 8) 8 (fixE 8 u)) := Lib.hid (by have h := ho8.base (base' := w.heap.size) hs7; simpa using h)
  clear ho8 hb8
  go_wp2_with (first
    | (at_builtin
       refine wpList_app_any _ byteP rfl (.tmp 67) (.tmp 68) rfl w.heap.size (.slice (some ⟨w7.heap.size, 0, none⟩) 8 8) 8 (fixE 8 u) rfl HO8.out w.heap.size A2 nb cb lb rfl (HRb.out.below HB8.out) ?_ ?_ ?_
       · omega
       · omega
       intro A9 c9 w9 ho9 hg9 hat9 hc9 hm9
       have HB9 := Lib.hid (HB8.out.grown hg9 hs8 (fun g hg => by simp [Value.ownBlock] at hg; omega))
       have HO9 := Lib.hid ho9.rd
       clear ho9 hg9 hat9 hm9))
  have hs9 := HB9.out.size
  refine (unfixed_8 A9 _ c9 (fixE 8 u ++ lb) _ ea w9.heap.size (by exact HE.out.below HB9.out h8) (by exact HO9.out) (by omega)).mono ?_
  rw [HF8.out]
  rintro e w10 ⟨rfl, m10, hw10⟩
  have HB10 : Hid (Below w.heap.size w w10) := Lib.hid (hw10 ▸ below_drewN HB9.out m10)
  have hs10 := HB10.out.size
  clear hw10 HB8 HB9 HO8 HO9 hs8 hs9
  simp only [uvRes]
  go_wp2_with fail
  refine (size_any u _ hu).mono ?_
  rintro e w11 ⟨rfl, hb11⟩
  have HB11 := Lib.hid (HB10.out.trans (hb11.mono hs10))
  clear hb11
  have hs11 := HB11.out.size
  go_wp2_with fail
  refine (zig_any n _ hn1 hn2).mono ?_
  rintro e w12 ⟨rfl, rfl⟩
  go_wp2_with fail
  refine (zag_any (zigN n) _ HZL.out).mono ?_
  rw [HZ.out]
  rintro e w13 ⟨rfl, rfl⟩
  go_wp2_with fail
  clear HB1 HB4 HB7 HB10 hs1 hs4 hs7 hs10 HUV HF4 HF8 hand HZ HZL hvu
  by_cases hv : 1 ≤ f ∧ f ≤ 536870911 ∧ 0 ≤ k ∧ k ≤ 5
  · obtain ⟨f', rfl⟩ := Int.eq_ofNat_of_zero_le (show 0 ≤ f by omega)
    obtain ⟨k', rfl⟩ := Int.eq_ofNat_of_zero_le (show 0 ≤ k by omega)
    have h1 : 1 ≤ f' := by omega
    have h2 : f' ≤ 536870911 := by omega
    have h3 : k' ≤ 5 := by omega
    have htb : f' * 8 + k' < 18446744073709551616 := by omega
    have HUT := Lib.hid (untag_tag f' k' h1 h2 h3)
    have hpr : putR (f' : Int) (k' : Int) u la = putE f' k' u la := by
      unfold putR
      rw [if_pos hv]
      simp
    have HPR := Lib.hid hpr
    clear hpr hv
    refine (tag_yes f' k' _ h1 h2 h3).mono ?_
    rintro e w14 ⟨rfl, rfl⟩
    go_wp2_with fail
    refine (untag_any (f' * 8 + k') _ ea (by exact HE.out.below HB11.out h8) htb).mono ?_
    rw [HUT.out]
    rintro e w15 ⟨rfl, m15, hw15⟩
    have HB15 : Hid (Below w.heap.size w w15) := Lib.hid (hw15 ▸ below_drewN HB11.out m15)
    have hs15 := HB15.out.size
    clear hw15 HB11 hs11
    simp only [untagRes]
    go_wp2_with fail
    refine (put_any none A 0 0 na ca u (f' : Int) (k' : Int) [] la _ ea w.heap.size w.heap.size (by exact HE.out.below HB15.out h8) (rd_nil _ _) (by exact hs15) (by omega) hu (by exact HRa.out.below HB15.out) (by exact hs15) (by omega)).mono ?_
    rw [HPR.out]
    rcases hp : putE f' k' u la with er | p
    · rintro e w16 ⟨hb16, rfl⟩
      have HB16 := Lib.hid (HB15.out.trans (hb16.mono hs15))
      clear hb16 hp
      go_wp2
      go_ret
      exact ⟨rfl, HB16.out⟩
    · obtain ⟨r, hr, hrf, hrk⟩ := put_next h1 h2 h3 hu (by rw [HLa.out]; omega) hp lb
      obtain ⟨r2, hr2, _, _⟩ := put_next h1 h2 h3 hu (by rw [HLa.out]; omega) hp []
      have hck := check_one (by rw [List.append_nil] at hr2; exact hr2)
      have hpl : p.length ≤ 100000 := by
        have := put_len hp
        rw [HLa.out] at this
        omega
      have HR := Lib.hid hr
      have HCK := Lib.hid hck
      have rf : (r.field : Int) = (f' : Int) := by omega
      have rk : (r.kind : Int) = (k' : Int) := by omega
      have HRF := Lib.hid rf
      have HRK := Lib.hid rk
      clear hr hr2 hck hp hrf hrk rf rk
      rintro e w16 ⟨hb16, A16, c16, rfl, ho16⟩
      simp only [List.length_nil, Nat.zero_add, List.nil_append] at ho16 ⊢
      have HB16 := Lib.hid (HB15.out.trans (hb16.mono hs15))
      have hs16 := HB16.out.size
      obtain ⟨_, _, hv16, hvc16, _, _⟩ := ho16.form
      injection hv16 with q1 q2 q3
      subst q3
      have HO16 := Lib.hid ho16.rd
      clear hb16 ho16 q1 q2
      go_wp2_with fail
      refine (bytes_any A16 p.length c16 p _ w16.heap.size (by exact HO16.out) (by exact Nat.le_refl _) (by omega)).mono ?_
      rintro e w17 ⟨rfl, ho17, hb17⟩
      have HB17 := Lib.hid (HB16.out.trans (hb17.mono hs16))
      have HR17 := Lib.hid (HO16.out.below hb17)
      have hs1617 := hb17.size
      have HO17 := Lib.hid (ho17.base (base' := w.heap.size) hs16)
      have hs17 := HB17.out.size
      clear ho17 hb17
      go_wp2_with (first
        | (at_builtin
           refine wpList_app_any _ byteP rfl (.tmp 165) (.tmp 166) rfl w.heap.size (.slice (some ⟨w16.heap.size, 0, none⟩) p.length p.length) p.length p rfl HO17.out w.heap.size A2 nb cb lb rfl (HRb.out.below HB17.out) ?_ ?_ ?_
           · omega
           · omega
           intro A18 c18 w18 ho18 hg18 hat18 hc18 hm18
           have HB18 := Lib.hid (HB17.out.grown hg18 hs17 (fun g hg => by simp [Value.ownBlock] at hg; omega))
           have HR18 := Lib.hid (HR17.out.grown hg18 hs1617 (fun g hg => by simp [Value.ownBlock] at hg; omega))
           have hs18' := hg18.size
           have HO18 := Lib.hid ho18.rd
           clear ho18 hg18 hat18 hm18))
      have hs18 := HB18.out.size
      refine (next_any A18 _ c18 (p ++ lb) _ ea w18.heap.size (by exact HE.out.below HB18.out h8) (by exact HO18.out) (by omega) hc18 (by exact Nat.le_refl _)).mono ?_
      rw [HR.out]
      rintro e w19 ⟨v19, rfl, ho19, hb19⟩
      have HB19 := Lib.hid (HB18.out.trans (hb19.mono hs18))
      have hs19 := HB19.out.size
      have hs19' := hb19.size
      have HR19 := Lib.hid (HR18.out.below (hb19.mono (by omega)))
      obtain ⟨Av, cv, hv19, _, _, _⟩ := ho19.form
      subst hv19
      clear ho19 hb19
      simp only [recCells]
      rw [HRF.out, HRK.out]
      have HBX := Lib.hid (HB19.out.alloc hs19 (.cells #[.int .i64 (f' : Int), .int .i64 (k' : Int), .int .u64 (r.u : Int), .slice Av r.b.length cv] 29))
      have HRX := Lib.hid (HR19.out.alloc (by omega) (.cells #[.int .i64 (f' : Int), .int .i64 (k' : Int), .int .u64 (r.u : Int), .slice Av r.b.length cv] 29))
      have hsX := HBX.out.size
      go_wp2_with fail
      refine (check_any A16 p.length c16 p _ ea w16.heap.size (by exact HE.out.below HBX.out h8) (by exact HRX.out) (by omega) hvc16 (by simp; omega)).mono ?_
      rw [HCK.out]
      rintro e w20 ⟨hb20, rfl⟩
      have HB20 := Lib.hid (HBX.out.trans (hb20.mono hsX))
      clear hb20
      go_wp2
      go_ret
      exact ⟨rfl, HB20.out⟩
  · have HV := Lib.hid hv
    have HPR : Hid (putR f k u la = .error 103) := Lib.hid (by unfold putR; rw [if_neg hv])
    clear hv
    refine (tag_no f k _ ea (by exact HE.out.below HB11.out h8) HV.out).mono ?_
    rintro e w14 ⟨rfl, m14, hw14⟩
    have HB14 : Hid (Below w.heap.size w w14) := Lib.hid (hw14 ▸ below_drewN HB11.out m14)
    clear hw14
    go_wp2_with fail
    refine (untag_any 0 _ ea (by exact HE.out.below HB14.out h8) (by omega)).mono ?_
    rw [untag_zero]
    rintro e w15 ⟨rfl, m15, hw15⟩
    have HB15 : Hid (Below w.heap.size w w15) := Lib.hid (hw15 ▸ below_drewN HB14.out m15)
    have hs15 := HB15.out.size
    clear hw15 HB14 HB11 hs11
    simp only [untagRes]
    go_wp2_with fail
    refine (put_any none A 0 0 na ca u f k [] la _ ea w.heap.size w.heap.size (by exact HE.out.below HB15.out h8) (rd_nil _ _) (by exact hs15) (by omega) hu (by exact HRa.out.below HB15.out) (by exact hs15) (by omega)).mono ?_
    rw [HPR.out]
    rintro e w16 ⟨hb16, rfl⟩
    have HB16 := Lib.hid (HB15.out.trans (hb16.mono hs15))
    clear hb16
    go_wp2
    go_ret
    exact ⟨rfl, HB16.out⟩

theorem wireBack_all (u n f k : Int) (A A2 : Option Addr) (na ca nb cb : Nat) (la lb : List UInt8) (w : World) (ea : Nat → Addr) (he : Env w ea) (hra : Rd w w.heap.size A na la) (hrb : Rd w w.heap.size A2 nb lb) (hnca : na ≤ ca) (hncb : nb ≤ cb)
    (hu : (Lit.int .u64 u).wf = true) (hn : (Lit.int .i64 n).wf = true) :
    Calls Tryd.prog 7 #[.int .u64 u, .int .i64 n, .int .i64 f, .int .i64 k, .slice A na ca, .slice A2 nb cb] w fun e w' => e = .returned (.bool true) ∧ Below w.heap.size w w' := by
  by_cases h : 16384 < na ∨ 16384 < nb
  · exact wireBack_long u n f k A A2 na ca nb cb w ea he h
  · have bu := bounds_u64 hu
    have bn := bounds_i64 hn
    obtain ⟨u', rfl⟩ := Int.eq_ofNat_of_zero_le (show 0 ≤ u by omega)
    exact wireBack_any u' n f k A A2 na ca nb cb la lb w ea he hra hrb (by omega) (by omega) (by omega) (by omega) (by omega) hnca hncb
end Go.Proofs.YtnahkhiomnkbcaaDoor
