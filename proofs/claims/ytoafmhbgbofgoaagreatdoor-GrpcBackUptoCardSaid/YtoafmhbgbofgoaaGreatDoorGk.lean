/-
  The walk of parleylaw16.GrpcBack.
-/
import Derived.Test.YtoafmhbgbofgoaaGreatDoorOq
import Derived.Test.YtoafmhbgbofgoaaGreatDoorAw
import Derived.Test.YtoafmhbgbofgoaaGreatDoorLg
import Derived.Test.YtoafmhbgbofgoaaGreatDoorSt
import Derived.Test.YtoafmhbgbofgoaaGreatDoorJb
namespace Go.Proofs.YtoafmhbgbofgoaaGreatDoor
open Go.RowKit Go.Own Go.Own.Hd Go.Own.Gb Go.Own.B64 Go.Own.Fn Go.WideShapes Go.Proofs.YtoafmhbgbofgoaaGreatDoor.Gp
attribute [local go_sem] Oper.semAt_some
theorem szs_sta (k : Nat) (t : ByteArray) (R : List HdrV) (hk : k ≤ 16) (ht : t.size ≤ 3000) (hz : Szk R) : Szs (staL k t R) := by
  refine szs_app (szs_app ?_ ?_) (szs_wr hz)
  · intro x hx
    rw [List.mem_singleton] at hx
    subst hx
    refine ⟨by show (⟨#[103, 114, 112, 99, 45, 115, 116, 97, 116, 117, 115]⟩ : ByteArray).size ≤ 1000000000; decide, ?_⟩
    show (decT k).size ≤ _
    have := dec_len 7 k (by omega)
    rw [Lib.size_eq]
    show (Lib.decDigits k).length ≤ _
    omega
  · intro x hx
    unfold msL at hx
    split at hx
    · cases hx
    · rw [List.mem_singleton] at hx
      subst hx
      refine ⟨by show (⟨#[103, 114, 112, 99, 45, 109, 101, 115, 115, 97, 103, 101]⟩ : ByteArray).size ≤ 1000000000; decide, ?_⟩
      show (⟨(Grpc.pct t.data.toList).toArray⟩ : ByteArray).size ≤ _
      rw [Lib.size_eq]
      show (Grpc.pct t.data.toList).length ≤ _
      have h1 := Grpc.pct_len t.data.toList
      have h2 := Lib.size_eq t
      omega
theorem szs_ans (R : List HdrV) (hz : Szk R) : Szs ([stH, ctH] ++ R.map wr1) := by
  refine szs_app (fun x hx => ?_) (szs_wr hz)
  simp only [List.mem_cons, List.not_mem_nil, or_false] at hx
  rcases hx with rfl | rfl <;> exact ⟨by decide, by decide⟩
set_option maxHeartbeats 16000000 in
set_option maxRecDepth 100000 in
theorem grpcBack_any (P U : ByteArray) (ms : Int) (A1 : Option Addr) (n1 c1 : Nat) (R1 : List HdrV) (code : Int) (t : ByteArray) (A2 : Option Addr) (n2 c2 : Nat) (R2 : List HdrV) (w : World) {e1 e2 e3 g1 g2 g3 g4 : Addr} (he : EnvH w e1 e2 e3) (hg : EnvG w g1 g2 g3 g4)
    (hn : n1 ≤ 1048576 ∧ n2 ≤ 1048576) (hr1 : Hr w A1 n1 R1) (hr2 : Hr w A2 n2 R2) (hz1 : Szs R1) (hz2 : Szs R2) (hs : P.size ≤ 1048576 ∧ U.size ≤ 1048576 ∧ t.size ≤ 1048576) (hms : ms ≤ 9223372036854775807) :
    Calls Tryz.prog 3 #[.agg #[.string P, .string U, .int .i64 ms, .slice A1 n1 c1], .agg #[.int .i64 code, .string t, .slice A2 n2 c2]] w fun e w' => e = .returned (.bool true) ∧ Below w.heap.size w w' := by
  obtain ⟨hn1, hn2⟩ := hn
  obtain ⟨hs1, hs2, hs3⟩ := hs
  have HE := Lib.hid he
  have HG := Lib.hid hg
  have HR1 := Lib.hid hr1
  have HR2 := Lib.hid hr2
  have HZ1 := Lib.hid hz1
  have HZ2 := Lib.hid hz2
  clear he hg hr1 hr2 hz1 hz2
  go_enter Tryz.func3, Tryz.ntmps3
  go_upto_region 1 with fail
  have HB0 := Lib.hid (show Below w.heap.size w ((w.alloc (.cells #[.string P, .string U, .int .i64 ms, .slice A1 n1 c1] 24)).alloc (.cells #[.int .i64 code, .string t, .slice A2 n2 c2] 26)) from ((Below.refl _ _).alloc (Nat.le_refl _) _).alloc (by simp) _)
  have HKc := Lib.hid (show Blk ((w.alloc (.cells #[.string P, .string U, .int .i64 ms, .slice A1 n1 c1] 24)).alloc (.cells #[.int .i64 code, .string t, .slice A2 n2 c2] 26)) w.heap.size 24 #[.string P, .string U, .int .i64 ms, .slice A1 n1 c1] from (Blk.new w 24 #[.string P, .string U, .int .i64 ms, .slice A1 n1 c1]).alloc _)
  have HKs := Lib.hid (show Blk ((w.alloc (.cells #[.string P, .string U, .int .i64 ms, .slice A1 n1 c1] 24)).alloc (.cells #[.int .i64 code, .string t, .slice A2 n2 c2] 26)) (w.heap.size + 1) 26 #[.int .i64 code, .string t, .slice A2 n2 c2] from by
    have h := Blk.new (w.alloc (.cells #[.string P, .string U, .int .i64 ms, .slice A1 n1 c1] 24)) 26 #[.int .i64 code, .string t, .slice A2 n2 c2]
    rw [show (w.alloc (.cells #[.string P, .string U, .int .i64 ms, .slice A1 n1 c1] 24)).heap.size = w.heap.size + 1 by simp] at h
    exact h)
  generalize (w.alloc (.cells #[.string P, .string U, .int .i64 ms, .slice A1 n1 c1] 24)).alloc (.cells #[.int .i64 code, .string t, .slice A2 n2 c2] 26) = w0 at HB0 HKc HKs ⊢
  have HKf := Lib.hid (fun W (hW : Below w0.heap.size w0 W) => (show W.cell? ⟨w.heap.size, 0, none⟩ = some (.string P) ∧ W.cell? ⟨w.heap.size, 1, none⟩ = some (.string U) ∧ W.cell? ⟨w.heap.size, 2, none⟩ = some (.int .i64 ms) ∧ W.cell? ⟨w.heap.size, 3, none⟩ = some (.slice A1 n1 c1) from
    have h := HKc.out.below hW HKc.out.lt
    ⟨h.cell 0, h.cell 1, h.cell 2, h.cell 3⟩))
  have HSf := Lib.hid (fun W (hW : Below w0.heap.size w0 W) => (show W.cell? ⟨w.heap.size + 1, 0, none⟩ = some (.int .i64 code) ∧ W.cell? ⟨w.heap.size + 1, 1, none⟩ = some (.string t) ∧ W.cell? ⟨w.heap.size + 1, 2, none⟩ = some (.slice A2 n2 c2) from
    have h := HKs.out.below hW HKs.out.lt
    ⟨h.cell 0, h.cell 1, h.cell 2⟩))
  have HBf := Lib.hid (fun W (hW : Below w0.heap.size w0 W) => (show Below w.heap.size w W from HB0.out.trans (hW.mono HB0.out.size)))
  have HEf := Lib.hid (fun W (hW : Below w0.heap.size w0 W) => HE.out.below (HBf.out W hW) HE.out.room)
  have HGf := Lib.hid (fun W (hW : Below w0.heap.size w0 W) => HG.out.below (HBf.out W hW) (Nat.le_trans (by decide) HE.out.room))
  have HR1f := Lib.hid (fun W (hW : Below w0.heap.size w0 W) => HR1.out.below (HBf.out W hW))
  have HR2f := Lib.hid (fun W (hW : Below w0.heap.size w0 W) => HR2.out.below (HBf.out W hW))
  clear HKc HKs HE HG HR1 HR2
  go_wp2_with fail
  refine (first_any w0 _ _ _ _ (HGf.out w0 (Below.refl _ _))).mono ?_
  rintro e w1 ⟨rfl, g1⟩
  have G1 := Lib.hid g1
  clear g1
  have k3 := (HKf.out w1 G1.out).2.2.2
  go_wp2_with fail
  refine (light_any A1 n1 c1 R1 w1 (by omega) (HR1f.out w1 G1.out) HZ1.out).mono ?_
  rintro e wx ⟨b1, rfl, hb1, q1, rfl⟩
  have G2 := Lib.hid (below_drewN G1.out q1)
  generalize w1.drewN q1 = w2 at G2 ⊢
  clear k3
  rcases b1 with _ | _
  · go_wp2
    go_ret
    exact ⟨rfl, HBf.out _ G2.out⟩
  obtain ⟨hn160, hzk1⟩ := hb1 rfl
  have HZK1 := Lib.hid hzk1
  clear hb1 hzk1
  have s2 := (HSf.out w2 G2.out).2.2
  go_wp2_with fail
  refine (light_any A2 n2 c2 R2 w2 (by omega) (HR2f.out w2 G2.out) HZ2.out).mono ?_
  rintro e wx ⟨b2, rfl, hb2, q2, rfl⟩
  have G3 := Lib.hid (below_drewN G2.out q2)
  generalize w2.drewN q2 = w3 at G3 ⊢
  clear s2
  rcases b2 with _ | _
  · go_wp2
    go_ret
    exact ⟨rfl, HBf.out _ G3.out⟩
  obtain ⟨hn260, hzk2⟩ := hb2 rfl
  have HZK2 := Lib.hid hzk2
  clear hb2 hzk2 G1 G2
  have k0 := (HKf.out w3 G3.out).1
  have k1 := (HKf.out w3 G3.out).2.1
  have k2 := (HKf.out w3 G3.out).2.2.1
  have k3 := (HKf.out w3 G3.out).2.2.2
  have s1 := (HSf.out w3 G3.out).2.1
  have hw1 : IntKind.i64.wrap ((P.size : Int) + (U.size : Int)) = (P.size : Int) + (U.size : Int) := IntWalk.i64_in _ (by omega)
  by_cases hl1 : (3000 : Int) < (P.size : Int) + (U.size : Int)
  · go_wp2
    go_ret
    exact ⟨rfl, HBf.out _ G3.out⟩
  by_cases hl2 : (3000 : Int) < (t.size : Int)
  · go_wp2
    go_ret
    exact ⟨rfl, HBf.out _ G3.out⟩
  go_wp2_with fail
  refine (request_any P U ms A1 n1 c1 R1 w3 (HEf.out w3 G3.out) (HGf.out w3 G3.out) hn160 (HR1f.out w3 G3.out) HZK1.out (by omega) (by omega) hms).mono ?_
  rintro e w4 ⟨g4, h4⟩
  have G4 := Lib.hid (G3.out.trans (g4.mono G3.out.size))
  have HL34 := Lib.hid (show w0.heap.size ≤ w3.heap.size from G3.out.size)
  clear g4 k0 k1 k2 k3 s1 G3
  have HLn1 := Lib.hid (HR1f.out w4 G4.out).1
  have HLn2 := Lib.hid (HR2f.out w4 G4.out).1
  rcases h4 with ⟨a4, rfl⟩ | ⟨hgd, hpb, hms0, tm, A', n', c', htm, rfl, hnc, hw4, ho4⟩
  · skip
    have k3 := (HKf.out w4 G4.out).2.2.2
    go_wp2_with fail
    refine (answer_any A1 n1 c1 R1 w4 (HEf.out w4 G4.out) (HGf.out w4 G4.out) hn160 (HR1f.out w4 G4.out) HZK1.out).mono ?_
    rintro e wa ⟨ga, ha⟩
    have Ga := Lib.hid (G4.out.trans (ga.mono G4.out.size))
    clear ga k3
    rcases ha with ⟨aa, rfl⟩ | ⟨hgda, Aa, na, ca, rfl, hnca, hna, hwa⟩
    · skip
      have s0 := (HSf.out wa Ga.out).1
      have s1 := (HSf.out wa Ga.out).2.1
      have s2 := (HSf.out wa Ga.out).2.2
      go_wp2_with fail
      refine (trailersW_any code t A2 n2 c2 R2 wa (HEf.out wa Ga.out) (HGf.out wa Ga.out) hn260 (HR2f.out wa Ga.out) HZK2.out (by omega)).mono ?_
      rintro e wt ⟨gt, ht⟩
      have Gt := Lib.hid (Ga.out.trans (gt.mono Ga.out.size))
      clear gt s0 s1 s2
      rcases ht with ⟨at4, rfl⟩ | ⟨hgdt, k, hk, hck, At, nt, ct, rfl, hnct, hnt, hwt⟩
      · go_wp2
        go_ret
        exact ⟨rfl, HBf.out _ Gt.out⟩
      · have HWt := Lib.hid hwt
        have HGt := Lib.hid hgdt
        have HCK := Lib.hid hck
        clear hwt hgdt hck
        go_wp2_with fail
        refine (openTrailers_any k t At nt ct R2 wt (HEf.out wt Gt.out) (HGf.out wt Gt.out) (by omega) HWt.out.hr HZK2.out HGt.out hk (by omega)).mono ?_
        rintro e wo ⟨go, Ao, co, rfl, hwo⟩
        rw [← HCK.out, HLn2.out]
        rw [HLn2.out] at hwo
        have Go := Lib.hid (Gt.out.trans (go.mono Gt.out.size))
        have HWo := Lib.hid (hwo.below ((Below.refl _ _).alloc (Nat.le_refl _) (.cells #[.int .i64 code, .string t, .slice Ao n2 co] 47)))
        have HWt2 := Lib.hid ((HWt.out.below go).below ((Below.refl _ _).alloc (Nat.le_refl _) (.cells #[.int .i64 code, .string t, .slice Ao n2 co] 47)))
        have Gp := Lib.hid (Go.out.alloc Go.out.size (.cells #[.int .i64 code, .string t, .slice Ao n2 co] 47))
        have HKo := Lib.hid (Blk.new wo 47 #[.int .i64 code, .string t, .slice Ao n2 co])
        clear go hwo
        go_upto_region 20 with fail
        generalize wo.alloc (.cells #[.int .i64 code, .string t, .slice Ao n2 co] 47) = wp at HWo HWt2 Gp HKo ⊢
        have o2 : wp.cell? ⟨wo.heap.size, 2, none⟩ = some (.slice Ao n2 co) := HKo.out.cell 2
        have s2 := (HSf.out wp Gp.out).2.2
        go_wp2_with fail
        refine (sameHeaders_yes Ao A2 n2 co c2 R2 wp (by omega) HWo.out.hr (HR2f.out wp Gp.out)).mono ?_
        rintro e wq ⟨rfl, gq⟩
        have Gq := Lib.hid (Gp.out.trans (gq.mono Gp.out.size))
        have ko := HKo.out.below gq HKo.out.lt
        have HWq := Lib.hid (HWt2.out.below gq)
        clear o2 s2 gq
        have o0 : wq.cell? ⟨wo.heap.size, 0, none⟩ = some (.int .i64 code) := ko.cell 0
        have o1 : wq.cell? ⟨wo.heap.size, 1, none⟩ = some (.string t) := ko.cell 1
        have s0 := (HSf.out wq Gq.out).1
        have s1 := (HSf.out wq Gq.out).2.1
        clear ko
        have HTr := Lib.hid (trails_ok At nt ct (staL k t R2) wq (HEf.out wq Gq.out) (by omega) HWq.out.hr (szs_sta k t R2 hk (by omega) HZK2.out))
        by_cases ht0 : t.data.toList = []
        · have hz0 : t.size = 0 := by rw [Lib.size_eq, ht0]; rfl
          have hp := sta_plain k t R2 HGt.out (fun h => absurd ht0 h)
          rw [hp] at HTr
          have hp0 : ¬ (0 < t.size) := by omega
          clear hp
          go_wp2_with fail
          refine HTr.out.mono ?_
          rintro e wr ⟨hee, gr⟩
          replace hee : e = .returned .nilIface := hee
          subst hee
          have Gr := Lib.hid (Gq.out.trans (gr.out.mono Gq.out.size))
          go_wp2
          go_ret
          exact ⟨rfl, HBf.out _ Gr.out⟩
        · have hz0 : 0 < t.size := by rw [Lib.size_eq]; exact List.length_pos_iff.2 ht0
          have hi0 := idx_str (P := Tryz.prog) Tryz.underlying9 t 0 0 rfl hz0
          have hi1 := idx_str (P := Tryz.prog) Tryz.underlying9 t (t.size - 1) ((t.size : Int) - 1) (by omega) (by omega)
          have hw2 : IntKind.i64.wrap ((t.size : Int) - 1) = (t.size : Int) - 1 := IntWalk.i64_in _ (by omega)
          obtain ⟨c0, hc0⟩ : ∃ c, t.data.toList.getD 0 0 = c := ⟨_, rfl⟩
          obtain ⟨cl, hcl⟩ : ∃ c, t.data.toList.getD (t.size - 1) 0 = c := ⟨_, rfl⟩
          rw [hc0] at hi0
          rw [hcl] at hi1
          by_cases h0 : c0 = 32
          · subst h0
            go_wp2
            go_ret
            exact ⟨rfl, HBf.out _ Gq.out⟩
          · have h0n : ((c0.toNat : Int) == 32) = false := by rw [beq_eq_false_iff_ne]; intro e; exact h0 (UInt8.toNat_inj.1 (by show c0.toNat = 32; omega))
            by_cases h1 : cl = 32
            · subst h1
              go_wp2
              go_ret
              exact ⟨rfl, HBf.out _ Gq.out⟩
            · have h1n : ((cl.toNat : Int) == 32) = false := by rw [beq_eq_false_iff_ne]; intro e; exact h1 (UInt8.toNat_inj.1 (by show cl.toNat = 32; omega))
              have hp := sta_plain k t R2 HGt.out (fun _ => ⟨by rw [hc0]; exact h0, by rw [← Lib.size_eq, hcl]; exact h1⟩)
              rw [hp] at HTr
              clear hp
              generalize c0.toNat = d0 at hi0 h0n
              generalize cl.toNat = d1 at hi1 h1n
              go_wp2_with fail
              refine HTr.out.mono ?_
              rintro e wr ⟨hee, gr⟩
              replace hee : e = .returned .nilIface := hee
              subst hee
              have Gr := Lib.hid (Gq.out.trans (gr.out.mono Gq.out.size))
              go_wp2
              go_ret
              exact ⟨rfl, HBf.out _ Gr.out⟩
    · have HWa := Lib.hid hwa
      have HGa := Lib.hid (ans_good R1 hgda)
      clear hwa hgda
      go_wp2_with fail
      refine (openAnswer_any Aa na ca _ wa (HEf.out wa Ga.out) (by omega) hnca HWa.out.hr (szs_ans R1 HZK1.out)).mono ?_
      rintro e wb ⟨gb, hb⟩
      have Gb0 := Lib.hid (Ga.out.trans (gb.mono Ga.out.size))
      clear gb
      rcases hb with ⟨hb, rfl⟩ | ⟨rest, sv, hb, Ab, cb, rfl, _⟩
      · exfalso
        have h := HGa.out
        unfold okB at h
        rw [hb] at h
        cases h
      · clear hb
        go_upto_region 14 with fail
        have Gc := Lib.hid (Gb0.out.alloc Gb0.out.size (.cells #[.int .i64 sv, .slice Ab rest.length cb] 43))
        generalize wb.alloc (.cells #[.int .i64 sv, .slice Ab rest.length cb] 43) = wc at Gc ⊢
        have s0 := (HSf.out wc Gc.out).1
        have s1 := (HSf.out wc Gc.out).2.1
        have s2 := (HSf.out wc Gc.out).2.2
        go_wp2_with fail
        refine (trailersW_any code t A2 n2 c2 R2 wc (HEf.out wc Gc.out) (HGf.out wc Gc.out) hn260 (HR2f.out wc Gc.out) HZK2.out (by omega)).mono ?_
        rintro e wt ⟨gt, ht⟩
        have Gt := Lib.hid (Gc.out.trans (gt.mono Gc.out.size))
        clear gt s0 s1 s2
        rcases ht with ⟨at4, rfl⟩ | ⟨hgdt, k, hk, hck, At, nt, ct, rfl, hnct, hnt, hwt⟩
        · go_wp2
          go_ret
          exact ⟨rfl, HBf.out _ Gt.out⟩
        · have HWt := Lib.hid hwt
          have HGt := Lib.hid hgdt
          have HCK := Lib.hid hck
          clear hwt hgdt hck
          go_wp2_with fail
          refine (openTrailers_any k t At nt ct R2 wt (HEf.out wt Gt.out) (HGf.out wt Gt.out) (by omega) HWt.out.hr HZK2.out HGt.out hk (by omega)).mono ?_
          rintro e wo ⟨go, Ao, co, rfl, hwo⟩
          rw [← HCK.out, HLn2.out]
          rw [HLn2.out] at hwo
          have Go := Lib.hid (Gt.out.trans (go.mono Gt.out.size))
          have HWo := Lib.hid (hwo.below ((Below.refl _ _).alloc (Nat.le_refl _) (.cells #[.int .i64 code, .string t, .slice Ao n2 co] 47)))
          have HWt2 := Lib.hid ((HWt.out.below go).below ((Below.refl _ _).alloc (Nat.le_refl _) (.cells #[.int .i64 code, .string t, .slice Ao n2 co] 47)))
          have Gp := Lib.hid (Go.out.alloc Go.out.size (.cells #[.int .i64 code, .string t, .slice Ao n2 co] 47))
          have HKo := Lib.hid (Blk.new wo 47 #[.int .i64 code, .string t, .slice Ao n2 co])
          clear go hwo
          go_upto_region 20 with fail
          generalize wo.alloc (.cells #[.int .i64 code, .string t, .slice Ao n2 co] 47) = wp at HWo HWt2 Gp HKo ⊢
          have o2 : wp.cell? ⟨wo.heap.size, 2, none⟩ = some (.slice Ao n2 co) := HKo.out.cell 2
          have s2 := (HSf.out wp Gp.out).2.2
          go_wp2_with fail
          refine (sameHeaders_yes Ao A2 n2 co c2 R2 wp (by omega) HWo.out.hr (HR2f.out wp Gp.out)).mono ?_
          rintro e wq ⟨rfl, gq⟩
          have Gq := Lib.hid (Gp.out.trans (gq.mono Gp.out.size))
          have ko := HKo.out.below gq HKo.out.lt
          have HWq := Lib.hid (HWt2.out.below gq)
          clear o2 s2 gq
          have o0 : wq.cell? ⟨wo.heap.size, 0, none⟩ = some (.int .i64 code) := ko.cell 0
          have o1 : wq.cell? ⟨wo.heap.size, 1, none⟩ = some (.string t) := ko.cell 1
          have s0 := (HSf.out wq Gq.out).1
          have s1 := (HSf.out wq Gq.out).2.1
          clear ko
          have HTr := Lib.hid (trails_ok At nt ct (staL k t R2) wq (HEf.out wq Gq.out) (by omega) HWq.out.hr (szs_sta k t R2 hk (by omega) HZK2.out))
          by_cases ht0 : t.data.toList = []
          · have hz0 : t.size = 0 := by rw [Lib.size_eq, ht0]; rfl
            have hp := sta_plain k t R2 HGt.out (fun h => absurd ht0 h)
            rw [hp] at HTr
            have hp0 : ¬ (0 < t.size) := by omega
            clear hp
            go_wp2_with fail
            refine HTr.out.mono ?_
            rintro e wr ⟨hee, gr⟩
            replace hee : e = .returned .nilIface := hee
            subst hee
            have Gr := Lib.hid (Gq.out.trans (gr.out.mono Gq.out.size))
            go_wp2
            go_ret
            exact ⟨rfl, HBf.out _ Gr.out⟩
          · have hz0 : 0 < t.size := by rw [Lib.size_eq]; exact List.length_pos_iff.2 ht0
            have hi0 := idx_str (P := Tryz.prog) Tryz.underlying9 t 0 0 rfl hz0
            have hi1 := idx_str (P := Tryz.prog) Tryz.underlying9 t (t.size - 1) ((t.size : Int) - 1) (by omega) (by omega)
            have hw2 : IntKind.i64.wrap ((t.size : Int) - 1) = (t.size : Int) - 1 := IntWalk.i64_in _ (by omega)
            obtain ⟨c0, hc0⟩ : ∃ c, t.data.toList.getD 0 0 = c := ⟨_, rfl⟩
            obtain ⟨cl, hcl⟩ : ∃ c, t.data.toList.getD (t.size - 1) 0 = c := ⟨_, rfl⟩
            rw [hc0] at hi0
            rw [hcl] at hi1
            by_cases h0 : c0 = 32
            · subst h0
              go_wp2
              go_ret
              exact ⟨rfl, HBf.out _ Gq.out⟩
            · have h0n : ((c0.toNat : Int) == 32) = false := by rw [beq_eq_false_iff_ne]; intro e; exact h0 (UInt8.toNat_inj.1 (by show c0.toNat = 32; omega))
              by_cases h1 : cl = 32
              · subst h1
                go_wp2
                go_ret
                exact ⟨rfl, HBf.out _ Gq.out⟩
              · have h1n : ((cl.toNat : Int) == 32) = false := by rw [beq_eq_false_iff_ne]; intro e; exact h1 (UInt8.toNat_inj.1 (by show cl.toNat = 32; omega))
                have hp := sta_plain k t R2 HGt.out (fun _ => ⟨by rw [hc0]; exact h0, by rw [← Lib.size_eq, hcl]; exact h1⟩)
                rw [hp] at HTr
                clear hp
                generalize c0.toNat = d0 at hi0 h0n
                generalize cl.toNat = d1 at hi1 h1n
                go_wp2_with fail
                refine HTr.out.mono ?_
                rintro e wr ⟨hee, gr⟩
                replace hee : e = .returned .nilIface := hee
                subst hee
                have Gr := Lib.hid (Gq.out.trans (gr.out.mono Gq.out.size))
                go_wp2
                go_ret
                exact ⟨rfl, HBf.out _ Gr.out⟩
  · have HW4 := Lib.hid hw4
    have HO4 := Lib.hid (And.intro hgd (And.intro hpb ho4))
    have HTM := Lib.hid htm
    have hzs4 : Szs (preL postT httpT U P ++ resL tm R1) := by
      refine szs_app ?_ (szs_app (szs_app szs_base htm.szs) (szs_wr HZK1.out))
      have z1 := szs_one colM postT (by decide) (by decide)
      have z2 := szs_one colS httpT (by decide) (by decide)
      have z3 := szs_one colA U (by decide) (by omega)
      have z4 := szs_one colP P (by decide) (by omega)
      unfold preL
      refine szs_app (szs_app (szs_app z1 z2) ?_) z4
      cases U.toList.isEmpty
      · exact z3
      · exact fun x hx => nomatch hx
    have HZS4 := Lib.hid hzs4
    have hn' : n' ≤ 100 := by
      have h := hw4.hr.1
      rw [← h]
      have h2 := htm.len
      have h3 := HLn1.out
      unfold preL
      cases U.toList.isEmpty <;> simp <;> omega
    clear hw4 hgd hpb ho4 htm hzs4
    go_wp2_with fail
    refine (openRequest_any P U ms A' n' c' tm R1 w4 (HEf.out w4 G4.out) hn' hnc HW4.out.hr HZK1.out HZS4.out (by omega) HO4.out.1 HO4.out.2.1 HTM.out HO4.out.2.2 (by have := HLn1.out; omega)).mono ?_
    rintro e w5 ⟨g5, v, A5, c5, rfl, hv, hw5⟩
    rw [HLn1.out]
    rw [HLn1.out] at hw5
    have HV := Lib.hid hv
    have G5 := Lib.hid (G4.out.trans (g5.mono G4.out.size))
    have G6 := Lib.hid (G5.out.alloc G5.out.size (.cells #[.string P, .string U, .int .i64 v, .slice A5 n1 c5] 33))
    have K6 := Lib.hid (Blk.new w5 33 #[.string P, .string U, .int .i64 v, .slice A5 n1 c5])
    have W6 := Lib.hid (hw5.below ((Below.refl _ _).alloc (Nat.le_refl _) (.cells #[.string P, .string U, .int .i64 v, .slice A5 n1 c5] 33)))
    have W6a := Lib.hid ((HW4.out.below g5).below ((Below.refl _ _).alloc (Nat.le_refl _) (.cells #[.string P, .string U, .int .i64 v, .slice A5 n1 c5] 33)))
    clear g5 hw5 hv
    go_upto_region 7 with fail
    obtain ⟨qb, hqb⟩ : ∃ q, w5.heap.size = q := ⟨_, rfl⟩
    generalize w5.alloc (.cells #[.string P, .string U, .int .i64 v, .slice A5 n1 c5] 33) = w6 at G6 K6 W6 W6a ⊢
    rw [hqb] at K6 ⊢
    clear hqb
    go_wp2_with fail
    refine (open_any A' n' c' _ w6 (HEf.out w6 G6.out) (by omega) hnc W6a.out.hr HZS4.out).mono ?_
    rintro e w7 ⟨g7, h7⟩
    have h8 : openS rules4 (preL postT httpT U P ++ resL tm R1) req0 = some (resL tm R1, ⟨postT, httpT, U, P⟩) := HO4.out.2.2
    have G7 := Lib.hid (G6.out.trans (g7.mono G6.out.size))
    have K7 := Lib.hid (K6.out.below g7 K6.out.lt)
    have W7 := Lib.hid (W6.out.below g7)
    clear g7
    rcases h7 with ⟨h7, _⟩ | ⟨rest, sv, h7, A7, c7, rfl, _⟩
    · exfalso
      have h9 := h8.symm.trans h7
      cases h9
    · clear h7 h8
      go_upto_region 8 with fail
      have G8 := Lib.hid (G7.out.alloc G7.out.size (.cells #[.string sv.m, .string sv.s, .string sv.a, .string sv.p, .slice A7 rest.length c7] 37))
      have K8 := Lib.hid (K7.out.alloc (.cells #[.string sv.m, .string sv.s, .string sv.a, .string sv.p, .slice A7 rest.length c7] 37))
      have W8 := Lib.hid (W7.out.below ((Below.refl _ _).alloc (Nat.le_refl _) (.cells #[.string sv.m, .string sv.s, .string sv.a, .string sv.p, .slice A7 rest.length c7] 37)))
      generalize w7.alloc (.cells #[.string sv.m, .string sv.s, .string sv.a, .string sv.p, .slice A7 rest.length c7] 37) = w8 at G8 K8 W8 ⊢
      have y3 : w8.cell? ⟨qb, 3, none⟩ = some (.slice A5 n1 c5) := K8.out.cell 3
      have k3 := (HKf.out w8 G8.out).2.2.2
      go_wp2_with fail
      refine (sameHeaders_yes A5 A1 n1 c5 c1 R1 w8 (by omega) W8.out.hr (HR1f.out w8 G8.out)).mono ?_
      rintro e w9 ⟨rfl, g9⟩
      have G9 := Lib.hid (G8.out.trans (g9.mono G8.out.size))
      have k9 := K8.out.below g9 K8.out.lt
      clear g9 y3 k3
      have y0 : w9.cell? ⟨qb, 0, none⟩ = some (.string P) := k9.cell 0
      have y1 : w9.cell? ⟨qb, 1, none⟩ = some (.string U) := k9.cell 1
      have y2 : w9.cell? ⟨qb, 2, none⟩ = some (.int .i64 v) := k9.cell 2
      have k0 := (HKf.out w9 G9.out).1
      have k1 := (HKf.out w9 G9.out).2.1
      have k2 := (HKf.out w9 G9.out).2.2.1
      clear k9
      by_cases hle : ms ≤ 99999999
      · obtain rfl := HV.out hle
        go_upto_region 11 with fail
        clear y0 y1 y2 k0 k1 k2
        have k3 := (HKf.out w9 G9.out).2.2.2
        go_wp2_with fail
        refine (answer_any A1 n1 c1 R1 w9 (HEf.out w9 G9.out) (HGf.out w9 G9.out) hn160 (HR1f.out w9 G9.out) HZK1.out).mono ?_
        rintro e wa ⟨ga, ha⟩
        have Ga := Lib.hid (G9.out.trans (ga.mono G9.out.size))
        clear ga k3
        rcases ha with ⟨aa, rfl⟩ | ⟨hgda, Aa, na, ca, rfl, hnca, hna, hwa⟩
        · skip
          have s0 := (HSf.out wa Ga.out).1
          have s1 := (HSf.out wa Ga.out).2.1
          have s2 := (HSf.out wa Ga.out).2.2
          go_wp2_with fail
          refine (trailersW_any code t A2 n2 c2 R2 wa (HEf.out wa Ga.out) (HGf.out wa Ga.out) hn260 (HR2f.out wa Ga.out) HZK2.out (by omega)).mono ?_
          rintro e wt ⟨gt, ht⟩
          have Gt := Lib.hid (Ga.out.trans (gt.mono Ga.out.size))
          clear gt s0 s1 s2
          rcases ht with ⟨at4, rfl⟩ | ⟨hgdt, k, hk, hck, At, nt, ct, rfl, hnct, hnt, hwt⟩
          · go_wp2
            go_ret
            exact ⟨rfl, HBf.out _ Gt.out⟩
          · have HWt := Lib.hid hwt
            have HGt := Lib.hid hgdt
            have HCK := Lib.hid hck
            clear hwt hgdt hck
            go_wp2_with fail
            refine (openTrailers_any k t At nt ct R2 wt (HEf.out wt Gt.out) (HGf.out wt Gt.out) (by omega) HWt.out.hr HZK2.out HGt.out hk (by omega)).mono ?_
            rintro e wo ⟨go, Ao, co, rfl, hwo⟩
            rw [← HCK.out, HLn2.out]
            rw [HLn2.out] at hwo
            have Go := Lib.hid (Gt.out.trans (go.mono Gt.out.size))
            have HWo := Lib.hid (hwo.below ((Below.refl _ _).alloc (Nat.le_refl _) (.cells #[.int .i64 code, .string t, .slice Ao n2 co] 47)))
            have HWt2 := Lib.hid ((HWt.out.below go).below ((Below.refl _ _).alloc (Nat.le_refl _) (.cells #[.int .i64 code, .string t, .slice Ao n2 co] 47)))
            have Gp := Lib.hid (Go.out.alloc Go.out.size (.cells #[.int .i64 code, .string t, .slice Ao n2 co] 47))
            have HKo := Lib.hid (Blk.new wo 47 #[.int .i64 code, .string t, .slice Ao n2 co])
            clear go hwo
            go_upto_region 20 with fail
            generalize wo.alloc (.cells #[.int .i64 code, .string t, .slice Ao n2 co] 47) = wp at HWo HWt2 Gp HKo ⊢
            have o2 : wp.cell? ⟨wo.heap.size, 2, none⟩ = some (.slice Ao n2 co) := HKo.out.cell 2
            have s2 := (HSf.out wp Gp.out).2.2
            go_wp2_with fail
            refine (sameHeaders_yes Ao A2 n2 co c2 R2 wp (by omega) HWo.out.hr (HR2f.out wp Gp.out)).mono ?_
            rintro e wq ⟨rfl, gq⟩
            have Gq := Lib.hid (Gp.out.trans (gq.mono Gp.out.size))
            have ko := HKo.out.below gq HKo.out.lt
            have HWq := Lib.hid (HWt2.out.below gq)
            clear o2 s2 gq
            have o0 : wq.cell? ⟨wo.heap.size, 0, none⟩ = some (.int .i64 code) := ko.cell 0
            have o1 : wq.cell? ⟨wo.heap.size, 1, none⟩ = some (.string t) := ko.cell 1
            have s0 := (HSf.out wq Gq.out).1
            have s1 := (HSf.out wq Gq.out).2.1
            clear ko
            have HTr := Lib.hid (trails_ok At nt ct (staL k t R2) wq (HEf.out wq Gq.out) (by omega) HWq.out.hr (szs_sta k t R2 hk (by omega) HZK2.out))
            by_cases ht0 : t.data.toList = []
            · have hz0 : t.size = 0 := by rw [Lib.size_eq, ht0]; rfl
              have hp := sta_plain k t R2 HGt.out (fun h => absurd ht0 h)
              rw [hp] at HTr
              have hp0 : ¬ (0 < t.size) := by omega
              clear hp
              go_wp2_with fail
              refine HTr.out.mono ?_
              rintro e wr ⟨hee, gr⟩
              replace hee : e = .returned .nilIface := hee
              subst hee
              have Gr := Lib.hid (Gq.out.trans (gr.out.mono Gq.out.size))
              go_wp2
              go_ret
              exact ⟨rfl, HBf.out _ Gr.out⟩
            · have hz0 : 0 < t.size := by rw [Lib.size_eq]; exact List.length_pos_iff.2 ht0
              have hi0 := idx_str (P := Tryz.prog) Tryz.underlying9 t 0 0 rfl hz0
              have hi1 := idx_str (P := Tryz.prog) Tryz.underlying9 t (t.size - 1) ((t.size : Int) - 1) (by omega) (by omega)
              have hw2 : IntKind.i64.wrap ((t.size : Int) - 1) = (t.size : Int) - 1 := IntWalk.i64_in _ (by omega)
              obtain ⟨c0, hc0⟩ : ∃ c, t.data.toList.getD 0 0 = c := ⟨_, rfl⟩
              obtain ⟨cl, hcl⟩ : ∃ c, t.data.toList.getD (t.size - 1) 0 = c := ⟨_, rfl⟩
              rw [hc0] at hi0
              rw [hcl] at hi1
              by_cases h0 : c0 = 32
              · subst h0
                go_wp2
                go_ret
                exact ⟨rfl, HBf.out _ Gq.out⟩
              · have h0n : ((c0.toNat : Int) == 32) = false := by rw [beq_eq_false_iff_ne]; intro e; exact h0 (UInt8.toNat_inj.1 (by show c0.toNat = 32; omega))
                by_cases h1 : cl = 32
                · subst h1
                  go_wp2
                  go_ret
                  exact ⟨rfl, HBf.out _ Gq.out⟩
                · have h1n : ((cl.toNat : Int) == 32) = false := by rw [beq_eq_false_iff_ne]; intro e; exact h1 (UInt8.toNat_inj.1 (by show cl.toNat = 32; omega))
                  have hp := sta_plain k t R2 HGt.out (fun _ => ⟨by rw [hc0]; exact h0, by rw [← Lib.size_eq, hcl]; exact h1⟩)
                  rw [hp] at HTr
                  clear hp
                  generalize c0.toNat = d0 at hi0 h0n
                  generalize cl.toNat = d1 at hi1 h1n
                  go_wp2_with fail
                  refine HTr.out.mono ?_
                  rintro e wr ⟨hee, gr⟩
                  replace hee : e = .returned .nilIface := hee
                  subst hee
                  have Gr := Lib.hid (Gq.out.trans (gr.out.mono Gq.out.size))
                  go_wp2
                  go_ret
                  exact ⟨rfl, HBf.out _ Gr.out⟩
        · have HWa := Lib.hid hwa
          have HGa := Lib.hid (ans_good R1 hgda)
          clear hwa hgda
          go_wp2_with fail
          refine (openAnswer_any Aa na ca _ wa (HEf.out wa Ga.out) (by omega) hnca HWa.out.hr (szs_ans R1 HZK1.out)).mono ?_
          rintro e wb ⟨gb, hb⟩
          have Gb0 := Lib.hid (Ga.out.trans (gb.mono Ga.out.size))
          clear gb
          rcases hb with ⟨hb, rfl⟩ | ⟨rest, sv, hb, Ab, cb, rfl, _⟩
          · exfalso
            have h := HGa.out
            unfold okB at h
            rw [hb] at h
            cases h
          · clear hb
            go_upto_region 14 with fail
            have Gc := Lib.hid (Gb0.out.alloc Gb0.out.size (.cells #[.int .i64 sv, .slice Ab rest.length cb] 43))
            generalize wb.alloc (.cells #[.int .i64 sv, .slice Ab rest.length cb] 43) = wc at Gc ⊢
            have s0 := (HSf.out wc Gc.out).1
            have s1 := (HSf.out wc Gc.out).2.1
            have s2 := (HSf.out wc Gc.out).2.2
            go_wp2_with fail
            refine (trailersW_any code t A2 n2 c2 R2 wc (HEf.out wc Gc.out) (HGf.out wc Gc.out) hn260 (HR2f.out wc Gc.out) HZK2.out (by omega)).mono ?_
            rintro e wt ⟨gt, ht⟩
            have Gt := Lib.hid (Gc.out.trans (gt.mono Gc.out.size))
            clear gt s0 s1 s2
            rcases ht with ⟨at4, rfl⟩ | ⟨hgdt, k, hk, hck, At, nt, ct, rfl, hnct, hnt, hwt⟩
            · go_wp2
              go_ret
              exact ⟨rfl, HBf.out _ Gt.out⟩
            · have HWt := Lib.hid hwt
              have HGt := Lib.hid hgdt
              have HCK := Lib.hid hck
              clear hwt hgdt hck
              go_wp2_with fail
              refine (openTrailers_any k t At nt ct R2 wt (HEf.out wt Gt.out) (HGf.out wt Gt.out) (by omega) HWt.out.hr HZK2.out HGt.out hk (by omega)).mono ?_
              rintro e wo ⟨go, Ao, co, rfl, hwo⟩
              rw [← HCK.out, HLn2.out]
              rw [HLn2.out] at hwo
              have Go := Lib.hid (Gt.out.trans (go.mono Gt.out.size))
              have HWo := Lib.hid (hwo.below ((Below.refl _ _).alloc (Nat.le_refl _) (.cells #[.int .i64 code, .string t, .slice Ao n2 co] 47)))
              have HWt2 := Lib.hid ((HWt.out.below go).below ((Below.refl _ _).alloc (Nat.le_refl _) (.cells #[.int .i64 code, .string t, .slice Ao n2 co] 47)))
              have Gp := Lib.hid (Go.out.alloc Go.out.size (.cells #[.int .i64 code, .string t, .slice Ao n2 co] 47))
              have HKo := Lib.hid (Blk.new wo 47 #[.int .i64 code, .string t, .slice Ao n2 co])
              clear go hwo
              go_upto_region 20 with fail
              generalize wo.alloc (.cells #[.int .i64 code, .string t, .slice Ao n2 co] 47) = wp at HWo HWt2 Gp HKo ⊢
              have o2 : wp.cell? ⟨wo.heap.size, 2, none⟩ = some (.slice Ao n2 co) := HKo.out.cell 2
              have s2 := (HSf.out wp Gp.out).2.2
              go_wp2_with fail
              refine (sameHeaders_yes Ao A2 n2 co c2 R2 wp (by omega) HWo.out.hr (HR2f.out wp Gp.out)).mono ?_
              rintro e wq ⟨rfl, gq⟩
              have Gq := Lib.hid (Gp.out.trans (gq.mono Gp.out.size))
              have ko := HKo.out.below gq HKo.out.lt
              have HWq := Lib.hid (HWt2.out.below gq)
              clear o2 s2 gq
              have o0 : wq.cell? ⟨wo.heap.size, 0, none⟩ = some (.int .i64 code) := ko.cell 0
              have o1 : wq.cell? ⟨wo.heap.size, 1, none⟩ = some (.string t) := ko.cell 1
              have s0 := (HSf.out wq Gq.out).1
              have s1 := (HSf.out wq Gq.out).2.1
              clear ko
              have HTr := Lib.hid (trails_ok At nt ct (staL k t R2) wq (HEf.out wq Gq.out) (by omega) HWq.out.hr (szs_sta k t R2 hk (by omega) HZK2.out))
              by_cases ht0 : t.data.toList = []
              · have hz0 : t.size = 0 := by rw [Lib.size_eq, ht0]; rfl
                have hp := sta_plain k t R2 HGt.out (fun h => absurd ht0 h)
                rw [hp] at HTr
                have hp0 : ¬ (0 < t.size) := by omega
                clear hp
                go_wp2_with fail
                refine HTr.out.mono ?_
                rintro e wr ⟨hee, gr⟩
                replace hee : e = .returned .nilIface := hee
                subst hee
                have Gr := Lib.hid (Gq.out.trans (gr.out.mono Gq.out.size))
                go_wp2
                go_ret
                exact ⟨rfl, HBf.out _ Gr.out⟩
              · have hz0 : 0 < t.size := by rw [Lib.size_eq]; exact List.length_pos_iff.2 ht0
                have hi0 := idx_str (P := Tryz.prog) Tryz.underlying9 t 0 0 rfl hz0
                have hi1 := idx_str (P := Tryz.prog) Tryz.underlying9 t (t.size - 1) ((t.size : Int) - 1) (by omega) (by omega)
                have hw2 : IntKind.i64.wrap ((t.size : Int) - 1) = (t.size : Int) - 1 := IntWalk.i64_in _ (by omega)
                obtain ⟨c0, hc0⟩ : ∃ c, t.data.toList.getD 0 0 = c := ⟨_, rfl⟩
                obtain ⟨cl, hcl⟩ : ∃ c, t.data.toList.getD (t.size - 1) 0 = c := ⟨_, rfl⟩
                rw [hc0] at hi0
                rw [hcl] at hi1
                by_cases h0 : c0 = 32
                · subst h0
                  go_wp2
                  go_ret
                  exact ⟨rfl, HBf.out _ Gq.out⟩
                · have h0n : ((c0.toNat : Int) == 32) = false := by rw [beq_eq_false_iff_ne]; intro e; exact h0 (UInt8.toNat_inj.1 (by show c0.toNat = 32; omega))
                  by_cases h1 : cl = 32
                  · subst h1
                    go_wp2
                    go_ret
                    exact ⟨rfl, HBf.out _ Gq.out⟩
                  · have h1n : ((cl.toNat : Int) == 32) = false := by rw [beq_eq_false_iff_ne]; intro e; exact h1 (UInt8.toNat_inj.1 (by show cl.toNat = 32; omega))
                    have hp := sta_plain k t R2 HGt.out (fun _ => ⟨by rw [hc0]; exact h0, by rw [← Lib.size_eq, hcl]; exact h1⟩)
                    rw [hp] at HTr
                    clear hp
                    generalize c0.toNat = d0 at hi0 h0n
                    generalize cl.toNat = d1 at hi1 h1n
                    go_wp2_with fail
                    refine HTr.out.mono ?_
                    rintro e wr ⟨hee, gr⟩
                    replace hee : e = .returned .nilIface := hee
                    subst hee
                    have Gr := Lib.hid (Gq.out.trans (gr.out.mono Gq.out.size))
                    go_wp2
                    go_ret
                    exact ⟨rfl, HBf.out _ Gr.out⟩
      · go_upto_region 11 with fail
        clear y0 y1 y2 k0 k1 k2
        have k3 := (HKf.out w9 G9.out).2.2.2
        go_wp2_with fail
        refine (answer_any A1 n1 c1 R1 w9 (HEf.out w9 G9.out) (HGf.out w9 G9.out) hn160 (HR1f.out w9 G9.out) HZK1.out).mono ?_
        rintro e wa ⟨ga, ha⟩
        have Ga := Lib.hid (G9.out.trans (ga.mono G9.out.size))
        clear ga k3
        rcases ha with ⟨aa, rfl⟩ | ⟨hgda, Aa, na, ca, rfl, hnca, hna, hwa⟩
        · skip
          have s0 := (HSf.out wa Ga.out).1
          have s1 := (HSf.out wa Ga.out).2.1
          have s2 := (HSf.out wa Ga.out).2.2
          go_wp2_with fail
          refine (trailersW_any code t A2 n2 c2 R2 wa (HEf.out wa Ga.out) (HGf.out wa Ga.out) hn260 (HR2f.out wa Ga.out) HZK2.out (by omega)).mono ?_
          rintro e wt ⟨gt, ht⟩
          have Gt := Lib.hid (Ga.out.trans (gt.mono Ga.out.size))
          clear gt s0 s1 s2
          rcases ht with ⟨at4, rfl⟩ | ⟨hgdt, k, hk, hck, At, nt, ct, rfl, hnct, hnt, hwt⟩
          · go_wp2
            go_ret
            exact ⟨rfl, HBf.out _ Gt.out⟩
          · have HWt := Lib.hid hwt
            have HGt := Lib.hid hgdt
            have HCK := Lib.hid hck
            clear hwt hgdt hck
            go_wp2_with fail
            refine (openTrailers_any k t At nt ct R2 wt (HEf.out wt Gt.out) (HGf.out wt Gt.out) (by omega) HWt.out.hr HZK2.out HGt.out hk (by omega)).mono ?_
            rintro e wo ⟨go, Ao, co, rfl, hwo⟩
            rw [← HCK.out, HLn2.out]
            rw [HLn2.out] at hwo
            have Go := Lib.hid (Gt.out.trans (go.mono Gt.out.size))
            have HWo := Lib.hid (hwo.below ((Below.refl _ _).alloc (Nat.le_refl _) (.cells #[.int .i64 code, .string t, .slice Ao n2 co] 47)))
            have HWt2 := Lib.hid ((HWt.out.below go).below ((Below.refl _ _).alloc (Nat.le_refl _) (.cells #[.int .i64 code, .string t, .slice Ao n2 co] 47)))
            have Gp := Lib.hid (Go.out.alloc Go.out.size (.cells #[.int .i64 code, .string t, .slice Ao n2 co] 47))
            have HKo := Lib.hid (Blk.new wo 47 #[.int .i64 code, .string t, .slice Ao n2 co])
            clear go hwo
            go_upto_region 20 with fail
            generalize wo.alloc (.cells #[.int .i64 code, .string t, .slice Ao n2 co] 47) = wp at HWo HWt2 Gp HKo ⊢
            have o2 : wp.cell? ⟨wo.heap.size, 2, none⟩ = some (.slice Ao n2 co) := HKo.out.cell 2
            have s2 := (HSf.out wp Gp.out).2.2
            go_wp2_with fail
            refine (sameHeaders_yes Ao A2 n2 co c2 R2 wp (by omega) HWo.out.hr (HR2f.out wp Gp.out)).mono ?_
            rintro e wq ⟨rfl, gq⟩
            have Gq := Lib.hid (Gp.out.trans (gq.mono Gp.out.size))
            have ko := HKo.out.below gq HKo.out.lt
            have HWq := Lib.hid (HWt2.out.below gq)
            clear o2 s2 gq
            have o0 : wq.cell? ⟨wo.heap.size, 0, none⟩ = some (.int .i64 code) := ko.cell 0
            have o1 : wq.cell? ⟨wo.heap.size, 1, none⟩ = some (.string t) := ko.cell 1
            have s0 := (HSf.out wq Gq.out).1
            have s1 := (HSf.out wq Gq.out).2.1
            clear ko
            have HTr := Lib.hid (trails_ok At nt ct (staL k t R2) wq (HEf.out wq Gq.out) (by omega) HWq.out.hr (szs_sta k t R2 hk (by omega) HZK2.out))
            by_cases ht0 : t.data.toList = []
            · have hz0 : t.size = 0 := by rw [Lib.size_eq, ht0]; rfl
              have hp := sta_plain k t R2 HGt.out (fun h => absurd ht0 h)
              rw [hp] at HTr
              have hp0 : ¬ (0 < t.size) := by omega
              clear hp
              go_wp2_with fail
              refine HTr.out.mono ?_
              rintro e wr ⟨hee, gr⟩
              replace hee : e = .returned .nilIface := hee
              subst hee
              have Gr := Lib.hid (Gq.out.trans (gr.out.mono Gq.out.size))
              go_wp2
              go_ret
              exact ⟨rfl, HBf.out _ Gr.out⟩
            · have hz0 : 0 < t.size := by rw [Lib.size_eq]; exact List.length_pos_iff.2 ht0
              have hi0 := idx_str (P := Tryz.prog) Tryz.underlying9 t 0 0 rfl hz0
              have hi1 := idx_str (P := Tryz.prog) Tryz.underlying9 t (t.size - 1) ((t.size : Int) - 1) (by omega) (by omega)
              have hw2 : IntKind.i64.wrap ((t.size : Int) - 1) = (t.size : Int) - 1 := IntWalk.i64_in _ (by omega)
              obtain ⟨c0, hc0⟩ : ∃ c, t.data.toList.getD 0 0 = c := ⟨_, rfl⟩
              obtain ⟨cl, hcl⟩ : ∃ c, t.data.toList.getD (t.size - 1) 0 = c := ⟨_, rfl⟩
              rw [hc0] at hi0
              rw [hcl] at hi1
              by_cases h0 : c0 = 32
              · subst h0
                go_wp2
                go_ret
                exact ⟨rfl, HBf.out _ Gq.out⟩
              · have h0n : ((c0.toNat : Int) == 32) = false := by rw [beq_eq_false_iff_ne]; intro e; exact h0 (UInt8.toNat_inj.1 (by show c0.toNat = 32; omega))
                by_cases h1 : cl = 32
                · subst h1
                  go_wp2
                  go_ret
                  exact ⟨rfl, HBf.out _ Gq.out⟩
                · have h1n : ((cl.toNat : Int) == 32) = false := by rw [beq_eq_false_iff_ne]; intro e; exact h1 (UInt8.toNat_inj.1 (by show cl.toNat = 32; omega))
                  have hp := sta_plain k t R2 HGt.out (fun _ => ⟨by rw [hc0]; exact h0, by rw [← Lib.size_eq, hcl]; exact h1⟩)
                  rw [hp] at HTr
                  clear hp
                  generalize c0.toNat = d0 at hi0 h0n
                  generalize cl.toNat = d1 at hi1 h1n
                  go_wp2_with fail
                  refine HTr.out.mono ?_
                  rintro e wr ⟨hee, gr⟩
                  replace hee : e = .returned .nilIface := hee
                  subst hee
                  have Gr := Lib.hid (Gq.out.trans (gr.out.mono Gq.out.size))
                  go_wp2
                  go_ret
                  exact ⟨rfl, HBf.out _ Gr.out⟩
        · have HWa := Lib.hid hwa
          have HGa := Lib.hid (ans_good R1 hgda)
          clear hwa hgda
          go_wp2_with fail
          refine (openAnswer_any Aa na ca _ wa (HEf.out wa Ga.out) (by omega) hnca HWa.out.hr (szs_ans R1 HZK1.out)).mono ?_
          rintro e wb ⟨gb, hb⟩
          have Gb0 := Lib.hid (Ga.out.trans (gb.mono Ga.out.size))
          clear gb
          rcases hb with ⟨hb, rfl⟩ | ⟨rest, sv, hb, Ab, cb, rfl, _⟩
          · exfalso
            have h := HGa.out
            unfold okB at h
            rw [hb] at h
            cases h
          · clear hb
            go_upto_region 14 with fail
            have Gc := Lib.hid (Gb0.out.alloc Gb0.out.size (.cells #[.int .i64 sv, .slice Ab rest.length cb] 43))
            generalize wb.alloc (.cells #[.int .i64 sv, .slice Ab rest.length cb] 43) = wc at Gc ⊢
            have s0 := (HSf.out wc Gc.out).1
            have s1 := (HSf.out wc Gc.out).2.1
            have s2 := (HSf.out wc Gc.out).2.2
            go_wp2_with fail
            refine (trailersW_any code t A2 n2 c2 R2 wc (HEf.out wc Gc.out) (HGf.out wc Gc.out) hn260 (HR2f.out wc Gc.out) HZK2.out (by omega)).mono ?_
            rintro e wt ⟨gt, ht⟩
            have Gt := Lib.hid (Gc.out.trans (gt.mono Gc.out.size))
            clear gt s0 s1 s2
            rcases ht with ⟨at4, rfl⟩ | ⟨hgdt, k, hk, hck, At, nt, ct, rfl, hnct, hnt, hwt⟩
            · go_wp2
              go_ret
              exact ⟨rfl, HBf.out _ Gt.out⟩
            · have HWt := Lib.hid hwt
              have HGt := Lib.hid hgdt
              have HCK := Lib.hid hck
              clear hwt hgdt hck
              go_wp2_with fail
              refine (openTrailers_any k t At nt ct R2 wt (HEf.out wt Gt.out) (HGf.out wt Gt.out) (by omega) HWt.out.hr HZK2.out HGt.out hk (by omega)).mono ?_
              rintro e wo ⟨go, Ao, co, rfl, hwo⟩
              rw [← HCK.out, HLn2.out]
              rw [HLn2.out] at hwo
              have Go := Lib.hid (Gt.out.trans (go.mono Gt.out.size))
              have HWo := Lib.hid (hwo.below ((Below.refl _ _).alloc (Nat.le_refl _) (.cells #[.int .i64 code, .string t, .slice Ao n2 co] 47)))
              have HWt2 := Lib.hid ((HWt.out.below go).below ((Below.refl _ _).alloc (Nat.le_refl _) (.cells #[.int .i64 code, .string t, .slice Ao n2 co] 47)))
              have Gp := Lib.hid (Go.out.alloc Go.out.size (.cells #[.int .i64 code, .string t, .slice Ao n2 co] 47))
              have HKo := Lib.hid (Blk.new wo 47 #[.int .i64 code, .string t, .slice Ao n2 co])
              clear go hwo
              go_upto_region 20 with fail
              generalize wo.alloc (.cells #[.int .i64 code, .string t, .slice Ao n2 co] 47) = wp at HWo HWt2 Gp HKo ⊢
              have o2 : wp.cell? ⟨wo.heap.size, 2, none⟩ = some (.slice Ao n2 co) := HKo.out.cell 2
              have s2 := (HSf.out wp Gp.out).2.2
              go_wp2_with fail
              refine (sameHeaders_yes Ao A2 n2 co c2 R2 wp (by omega) HWo.out.hr (HR2f.out wp Gp.out)).mono ?_
              rintro e wq ⟨rfl, gq⟩
              have Gq := Lib.hid (Gp.out.trans (gq.mono Gp.out.size))
              have ko := HKo.out.below gq HKo.out.lt
              have HWq := Lib.hid (HWt2.out.below gq)
              clear o2 s2 gq
              have o0 : wq.cell? ⟨wo.heap.size, 0, none⟩ = some (.int .i64 code) := ko.cell 0
              have o1 : wq.cell? ⟨wo.heap.size, 1, none⟩ = some (.string t) := ko.cell 1
              have s0 := (HSf.out wq Gq.out).1
              have s1 := (HSf.out wq Gq.out).2.1
              clear ko
              have HTr := Lib.hid (trails_ok At nt ct (staL k t R2) wq (HEf.out wq Gq.out) (by omega) HWq.out.hr (szs_sta k t R2 hk (by omega) HZK2.out))
              by_cases ht0 : t.data.toList = []
              · have hz0 : t.size = 0 := by rw [Lib.size_eq, ht0]; rfl
                have hp := sta_plain k t R2 HGt.out (fun h => absurd ht0 h)
                rw [hp] at HTr
                have hp0 : ¬ (0 < t.size) := by omega
                clear hp
                go_wp2_with fail
                refine HTr.out.mono ?_
                rintro e wr ⟨hee, gr⟩
                replace hee : e = .returned .nilIface := hee
                subst hee
                have Gr := Lib.hid (Gq.out.trans (gr.out.mono Gq.out.size))
                go_wp2
                go_ret
                exact ⟨rfl, HBf.out _ Gr.out⟩
              · have hz0 : 0 < t.size := by rw [Lib.size_eq]; exact List.length_pos_iff.2 ht0
                have hi0 := idx_str (P := Tryz.prog) Tryz.underlying9 t 0 0 rfl hz0
                have hi1 := idx_str (P := Tryz.prog) Tryz.underlying9 t (t.size - 1) ((t.size : Int) - 1) (by omega) (by omega)
                have hw2 : IntKind.i64.wrap ((t.size : Int) - 1) = (t.size : Int) - 1 := IntWalk.i64_in _ (by omega)
                obtain ⟨c0, hc0⟩ : ∃ c, t.data.toList.getD 0 0 = c := ⟨_, rfl⟩
                obtain ⟨cl, hcl⟩ : ∃ c, t.data.toList.getD (t.size - 1) 0 = c := ⟨_, rfl⟩
                rw [hc0] at hi0
                rw [hcl] at hi1
                by_cases h0 : c0 = 32
                · subst h0
                  go_wp2
                  go_ret
                  exact ⟨rfl, HBf.out _ Gq.out⟩
                · have h0n : ((c0.toNat : Int) == 32) = false := by rw [beq_eq_false_iff_ne]; intro e; exact h0 (UInt8.toNat_inj.1 (by show c0.toNat = 32; omega))
                  by_cases h1 : cl = 32
                  · subst h1
                    go_wp2
                    go_ret
                    exact ⟨rfl, HBf.out _ Gq.out⟩
                  · have h1n : ((cl.toNat : Int) == 32) = false := by rw [beq_eq_false_iff_ne]; intro e; exact h1 (UInt8.toNat_inj.1 (by show cl.toNat = 32; omega))
                    have hp := sta_plain k t R2 HGt.out (fun _ => ⟨by rw [hc0]; exact h0, by rw [← Lib.size_eq, hcl]; exact h1⟩)
                    rw [hp] at HTr
                    clear hp
                    generalize c0.toNat = d0 at hi0 h0n
                    generalize cl.toNat = d1 at hi1 h1n
                    go_wp2_with fail
                    refine HTr.out.mono ?_
                    rintro e wr ⟨hee, gr⟩
                    replace hee : e = .returned .nilIface := hee
                    subst hee
                    have Gr := Lib.hid (Gq.out.trans (gr.out.mono Gq.out.size))
                    go_wp2
                    go_ret
                    exact ⟨rfl, HBf.out _ Gr.out⟩
end Go.Proofs.YtoafmhbgbofgoaaGreatDoor
