/-
  Contract: stamp.Parse, a text with a plus.
-/
import Derived.Test.YtacmlpgakibdgaaDoorRd5
import Derived.Deep.CutBlock
import Derived.Deep.DeepCutAuto
namespace Go.Proofs.YtacmlpgakibdgaaDoor
open Go.RowKit Go.Own Go.Own.Dig Go.Own.Alg

set_option maxHeartbeats 4000000 in
set_option maxRecDepth 100000 in
theorem parse_p (s : List UInt8) (w : World) (ev : Addr) (he : EnvS w ev) (hs : s.length ≤ 1000) {Y M D H I E N : Nat} {x0 x1 x2 x3 x4 x5 x6 : St} (hf : Front s Y M D H I E N x0 x1 x2 x3 x4 x5 x6) (hz : Lib.hasPrefix x6.1 [90] = false) (hm : Lib.hasPrefix x6.1 [45] = false) :
    Calls Tryd.prog 12 #[.string ⟨s.toArray⟩] w fun e w' => e = .returned (resT ev (parseT s)) ∧ Below w.heap.size w w' := by
  have hmk : ∀ W : World, (Instr.makeSlice 25 (.int .i64 6) (.int .i64 6)).run Tryd.prog W = .ok (.slice (some ⟨W.heap.size, 0, none⟩) 6 6) (W.alloc (.cells (sixOf 0 0 0 0 0 0) 3)) := fun _ => by kernel_rfl
  unfold sixOf at hmk
  have HE := Lib.hid he
  have h8 := he.room
  obtain ⟨⟨hY, hx0⟩, h1, h2, h3, h4, h5, h6, bY, bM, bD, bH, bI, bE, bN, l0, l1, l2, l3, l4, l5, l6⟩ := id hf
  have HF := Lib.hid hf
  have HY := Lib.hid hY; have HX0 := Lib.hid hx0; have H1 := Lib.hid h1; have H2 := Lib.hid h2; have H3 := Lib.hid h3; have H4 := Lib.hid h4; have H5 := Lib.hid h5; have H6 := Lib.hid h6
  obtain ⟨x7, hx7⟩ : ∃ x7 : St, (rMust [43] x6) = x7 := ⟨_, rfl⟩
  have l7 : x7.1.length ≤ 1000 := by rw [← hx7]; have := must_len [43] x6; (try simp only at *); omega
  obtain ⟨HH, l8, b8, h8'⟩ : ∃ a b c, rTwo x7 = (a, (b, c)) := ⟨_, _, _, rfl⟩
  have bHH : HH < 100 := by have := two_bd x7; rw [h8'] at this; exact this
  have ll8 : l8.length ≤ 1000 := by have := two_len x7; rw [h8'] at this; simp only at this; omega
  obtain ⟨z9, hz9⟩ : ∃ z9, rMust [58] (l8, b8 || decide (23 < HH)) = z9 := ⟨_, rfl⟩
  have l9 : z9.1.length ≤ 1000 := by rw [← hz9]; have := must_len [58] (l8, b8 || decide (23 < HH)); simp only at this; omega
  obtain ⟨MI, l11, b11, h11⟩ : ∃ a b c, rTwo z9 = (a, (b, c)) := ⟨_, _, _, rfl⟩
  have bMI : MI < 100 := by have := two_bd z9; rw [h11] at this; exact this
  have hzone : rZone x6 = ((-((HH : Int) * 3600 + (MI : Int) * 60)), (l11, b11 || decide (59 < MI))) := by
    unfold rZone rSign rZone2
    rw [if_neg (by rw [hz]; decide), if_neg (by rw [hm]; decide)]
    simp only [hx7, h8', hz9, h11]
    refine Prod.ext ?_ rfl
    simp only
    omega
  have HPZ := Lib.hid (parse_front hf hzone)
  have H7 := Lib.hid hx7; have H8 := Lib.hid h8'; have H9 := Lib.hid hz9; have H11 := Lib.hid h11
  have HZZ := Lib.hid hz
  have HMM := Lib.hid hm
  have HT90 : Hid ((Lib.trimPrefix x6.1 [90], x6.2) = x6) := Lib.hid (by unfold Lib.trimPrefix; rw [hz]; rfl)
  have HT45 : Hid ((Lib.trimPrefix x6.1 [45], x6.2) = x6) := Lib.hid (by unfold Lib.trimPrefix; rw [hm]; rfl)
  clear he hf hY hx0 h1 h2 h3 h4 h5 h6 hz hm hx7 h8' hz9 h11 hzone
  go_enter Tryd.func12, Tryd.ntmps12
  go_wp2_with fail
  refine wp_scope_jumps 0 (fun _ _ => False) (fun _ _ => 0) rfl ?_ (fun _ _ h => h.elim)
  · skip
    go_wp2_with fail
    have hW0 : PW w (((w.alloc (.cells #[.int .i64 0, .int .i64 0] 24)).alloc (.cells #[.string ⟨s.toArray⟩, .bool false] 58)).alloc (.cells #[.int .i64 0, .int .i64 0, .int .i64 0, .int .i64 0, .int .i64 0, .int .i64 0] 3)) (s, false) 0 0 0 0 0 0 :=
      ⟨(((Below.refl _ _).alloc (Nat.le_refl _) _).alloc (by simp) _).alloc (by simp; omega) _, ((Blk.new w _ _).alloc _).alloc _, Blk.alloc (by have h := Blk.new (w.alloc (.cells #[.int .i64 0, .int .i64 0] 24)) 58 #[.string ⟨s.toArray⟩, .bool false]; rw [World.size_alloc] at h; exact h) _, by have h := Blk.new ((w.alloc (.cells #[.int .i64 0, .int .i64 0] 24)).alloc (.cells #[.string ⟨s.toArray⟩, .bool false] 58)) 3 (sixOf 0 0 0 0 0 0); rw [World.size_alloc, World.size_alloc] at h; exact h⟩
    generalize ((w.alloc (.cells #[.int .i64 0, .int .i64 0] 24)).alloc (.cells #[.string ⟨s.toArray⟩, .bool false] 58)).alloc _ = W0 at hW0 ⊢
    have P0 := Lib.hid hW0
    clear hW0
    refine (digits_any (w.heap.size + 1) 4 4 s false _ (by exact P0.out.rd) (by omega) (by omega) (by omega)).mono ?_
    rw [HY.out, HX0.out]
    generalize (rDig 4 4 (s, false)).2.1 = cY
    rintro e W1 ⟨rfl, hp⟩
    have P1 := Lib.hid (P0.out.step hp)
    clear hp P0
    have z0 := P1.out.thaw 0
    obtain ⟨d0, _, _, _, _, _⟩ := P1.out.dates
    go_wp2_with fail
    have hgs : w.heap.size + 1 + 1 < W1.heap.size := P1.out.date.lt
    have hW2 : PW w ((W1.setCell ⟨w.heap.size + 1 + 1, 0, none⟩ (.int .i64 (Y : Int))).alloc (.cells signT 9)) x0 Y 0 0 0 0 0 := (P1.out.put 0 _ rfl).old ((Below.refl _ _).alloc (Nat.le_refl _) _)
    have hS2 : Blk ((W1.setCell ⟨w.heap.size + 1 + 1, 0, none⟩ (.int .i64 (Y : Int))).alloc (.cells signT 9)) W1.heap.size 9 signT := by
      have h := Blk.new (W1.setCell ⟨w.heap.size + 1 + 1, 0, none⟩ (.int .i64 (Y : Int))) 9 signT
      rw [show (W1.setCell ⟨w.heap.size + 1 + 1, 0, none⟩ (.int .i64 (Y : Int))).heap.size = W1.heap.size by simp] at h
      exact h
    unfold signT at hW2 hS2
    generalize hW1s : W1.heap.size = gs at *
    clear hW1s
    generalize (W1.setCell _ _).alloc _ = W2 at hW2 hS2 ⊢
    have P2 := Lib.hid hW2
    have S2 := Lib.hid hS2
    clear hW2 hS2 P1 z0 d0 hmk
    go_loopw [27, 6, 7] (fun ix _ _ wr => ∃ k : Nat, k ≤ 5 ∧ ix = .int .i64 k ∧ PK w wr x0 x1 x2 x3 x4 x5 Y M D H I E k ∧ Blk wr gs 9 #[.string ⟨#[45]⟩, .string ⟨#[45]⟩, .string ⟨#[84]⟩, .string ⟨#[58]⟩, .string ⟨#[58]⟩]) (fun ix _ _ _ => 5 - (intOf ix).toNat)
    case atStart => exact ⟨0, by omega, rfl, P2.out, S2.out⟩
    case round =>
      obtain ⟨k, hk, rfl, hpk, hsb⟩ := hrel
      have hk' : k = 0 ∨ k = 1 ∨ k = 2 ∨ k = 3 ∨ k = 4 ∨ k = 5 := by omega
      have s0 : wr.cell? ⟨gs, 0, none⟩ = some (.string ⟨#[45]⟩) := hsb.cell 0
      have s1 : wr.cell? ⟨gs, 1, none⟩ = some (.string ⟨#[45]⟩) := hsb.cell 1
      have s2 : wr.cell? ⟨gs, 2, none⟩ = some (.string ⟨#[84]⟩) := hsb.cell 2
      have s3 : wr.cell? ⟨gs, 3, none⟩ = some (.string ⟨#[58]⟩) := hsb.cell 3
      have s4 : wr.cell? ⟨gs, 4, none⟩ = some (.string ⟨#[58]⟩) := hsb.cell 4
      have SR := Lib.hid hsb
      clear hk hsb P2 S2
      rcases hk' with rfl | rfl | rfl | rfl | rfl | rfl
      · have PR : Hid (PW w wr x0 Y 0 0 0 0 0) := Lib.hid hpk
        clear hpk
        go_wp2_with fail
        refine (must_st (w.heap.size + 1) x0 _ [45] (by exact PR.out.rd)).mono ?_
        rintro x W3 ⟨⟨v, rfl⟩, hp⟩
        have P3 := Lib.hid (PR.out.step hp)
        have S3 := Lib.hid (SR.out.grown hp.2 (by simp; omega))
        clear hp
        go_wp2_with fail
        refine (two_st (w.heap.size + 1) (rMust [45] x0) _ (by exact P3.out.rd) (by have := must_len [45] x0; omega)).mono ?_
        rw [H1.out]
        rintro x W4 ⟨rfl, hp⟩
        have P4 := Lib.hid (P3.out.step hp)
        have S4 := Lib.hid (S3.out.grown hp.2 (by simp; omega))
        clear hp
        have zk := P4.out.thaw 1
        obtain ⟨f0, f1, f2, f3, f4, f5⟩ := P4.out.dates
        clear s0 s1 s2 s3 s4
        go_wp2
        go_roundw
        case rel => exact ⟨1, by omega, rfl, P4.out.put 1 _ rfl, S4.out.far (by simp; omega) _⟩
        case measure => simp [intOf]
      · have PR : Hid (PW w wr x1 Y M 0 0 0 0) := Lib.hid hpk
        clear hpk
        go_wp2_with fail
        refine (must_st (w.heap.size + 1) x1 _ [45] (by exact PR.out.rd)).mono ?_
        rintro x W3 ⟨⟨v, rfl⟩, hp⟩
        have P3 := Lib.hid (PR.out.step hp)
        have S3 := Lib.hid (SR.out.grown hp.2 (by simp; omega))
        clear hp
        go_wp2_with fail
        refine (two_st (w.heap.size + 1) (rMust [45] x1) _ (by exact P3.out.rd) (by have := must_len [45] x1; omega)).mono ?_
        rw [H2.out]
        rintro x W4 ⟨rfl, hp⟩
        have P4 := Lib.hid (P3.out.step hp)
        have S4 := Lib.hid (S3.out.grown hp.2 (by simp; omega))
        clear hp
        have zk := P4.out.thaw 2
        obtain ⟨f0, f1, f2, f3, f4, f5⟩ := P4.out.dates
        clear s0 s1 s2 s3 s4
        go_wp2
        go_roundw
        case rel => exact ⟨2, by omega, rfl, P4.out.put 2 _ rfl, S4.out.far (by simp; omega) _⟩
        case measure => simp [intOf]
      · have PR : Hid (PW w wr x2 Y M D 0 0 0) := Lib.hid hpk
        clear hpk
        go_wp2_with fail
        refine (must_st (w.heap.size + 1) x2 _ [84] (by exact PR.out.rd)).mono ?_
        rintro x W3 ⟨⟨v, rfl⟩, hp⟩
        have P3 := Lib.hid (PR.out.step hp)
        have S3 := Lib.hid (SR.out.grown hp.2 (by simp; omega))
        clear hp
        go_wp2_with fail
        refine (two_st (w.heap.size + 1) (rMust [84] x2) _ (by exact P3.out.rd) (by have := must_len [84] x2; omega)).mono ?_
        rw [H3.out]
        rintro x W4 ⟨rfl, hp⟩
        have P4 := Lib.hid (P3.out.step hp)
        have S4 := Lib.hid (S3.out.grown hp.2 (by simp; omega))
        clear hp
        have zk := P4.out.thaw 3
        obtain ⟨f0, f1, f2, f3, f4, f5⟩ := P4.out.dates
        clear s0 s1 s2 s3 s4
        go_wp2
        go_roundw
        case rel => exact ⟨3, by omega, rfl, P4.out.put 3 _ rfl, S4.out.far (by simp; omega) _⟩
        case measure => simp [intOf]
      · have PR : Hid (PW w wr x3 Y M D H 0 0) := Lib.hid hpk
        clear hpk
        go_wp2_with fail
        refine (must_st (w.heap.size + 1) x3 _ [58] (by exact PR.out.rd)).mono ?_
        rintro x W3 ⟨⟨v, rfl⟩, hp⟩
        have P3 := Lib.hid (PR.out.step hp)
        have S3 := Lib.hid (SR.out.grown hp.2 (by simp; omega))
        clear hp
        go_wp2_with fail
        refine (two_st (w.heap.size + 1) (rMust [58] x3) _ (by exact P3.out.rd) (by have := must_len [58] x3; omega)).mono ?_
        rw [H4.out]
        rintro x W4 ⟨rfl, hp⟩
        have P4 := Lib.hid (P3.out.step hp)
        have S4 := Lib.hid (S3.out.grown hp.2 (by simp; omega))
        clear hp
        have zk := P4.out.thaw 4
        obtain ⟨f0, f1, f2, f3, f4, f5⟩ := P4.out.dates
        clear s0 s1 s2 s3 s4
        go_wp2
        go_roundw
        case rel => exact ⟨4, by omega, rfl, P4.out.put 4 _ rfl, S4.out.far (by simp; omega) _⟩
        case measure => simp [intOf]
      · have PR : Hid (PW w wr x4 Y M D H I 0) := Lib.hid hpk
        clear hpk
        go_wp2_with fail
        refine (must_st (w.heap.size + 1) x4 _ [58] (by exact PR.out.rd)).mono ?_
        rintro x W3 ⟨⟨v, rfl⟩, hp⟩
        have P3 := Lib.hid (PR.out.step hp)
        have S3 := Lib.hid (SR.out.grown hp.2 (by simp; omega))
        clear hp
        go_wp2_with fail
        refine (two_st (w.heap.size + 1) (rMust [58] x4) _ (by exact P3.out.rd) (by have := must_len [58] x4; omega)).mono ?_
        rw [H5.out]
        rintro x W4 ⟨rfl, hp⟩
        have P4 := Lib.hid (P3.out.step hp)
        have S4 := Lib.hid (S3.out.grown hp.2 (by simp; omega))
        clear hp
        have zk := P4.out.thaw 5
        obtain ⟨f0, f1, f2, f3, f4, f5⟩ := P4.out.dates
        clear s0 s1 s2 s3 s4
        go_wp2
        go_roundw
        case rel => exact ⟨5, by omega, rfl, P4.out.put 5 _ rfl, S4.out.far (by simp; omega) _⟩
        case measure => simp [intOf]
      · have PR : Hid (PW w wr x5 Y M D H I E) := Lib.hid hpk
        clear hpk s0 s1 s2 s3 s4 SR
        go_wp2_with fail
        refine (frac_st (w.heap.size + 1) x5 _ (by exact PR.out.rd) (by omega)).mono ?_
        rw [H6.out]
        rintro x W3 ⟨rfl, hp⟩
        have P3 := Lib.hid (PR.out.step hp)
        clear hp PR
        go_wp2_with fail
        refine (take_st (w.heap.size + 1) x6 _ [90] (by exact P3.out.rd)).mono ?_
        rw [HZZ.out, HT90.out]
        rintro x W4 ⟨rfl, hp⟩
        have P4 := Lib.hid (P3.out.step hp)
        clear hp P3
        go_wp2_with fail
        refine (take_st (w.heap.size + 1) x6 _ [45] (by exact P4.out.rd)).mono ?_
        rw [HMM.out, HT45.out]
        rintro x W5 ⟨rfl, hp⟩
        have P4b := Lib.hid (P4.out.step hp)
        clear hp P4
        go_wp2_with fail
        refine (must_st (w.heap.size + 1) x6 _ [43] (by exact P4b.out.rd)).mono ?_
        rw [H7.out]
        rintro x W5 ⟨⟨v, rfl⟩, hp⟩
        have P5 := Lib.hid (P4b.out.step hp)
        clear hp P4b
        go_wp2_with fail
        refine (two_st (w.heap.size + 1) x7 _ (by exact P5.out.rd) l7).mono ?_
        rw [H8.out]
        rintro x W6 ⟨rfl, hp⟩
        have P6 := Lib.hid (P5.out.step hp)
        clear hp P5
        obtain ⟨v0, v1, v2, v3⟩ := P6.out.cells
        simp only at v0 v1
        go_upto_region 17 with fail
        go_cut [63] from 53 to 63 (fun _ wx => PW w wx (l8, b8 || decide (23 < HH)) Y M D H I E)
        case first =>
          have P7 := Lib.hid (P6.out.bad (b8 || decide (23 < HH)))
          clear P6
          rcases b8 with _ | _
          · go_wp2
            go_meet
            rw [show decide ((23 : Int) < (HH : Int)) = decide (23 < HH) from by rw [decide_eq_decide]; omega]
            exact P7.out
          · go_wp2
            go_meet
            exact P7.out
        case rest =>
          have P7 := Lib.hid hcut
          clear hcut P6 v0 v1 v2 v3
          go_wp2_with fail
          refine (must_st (w.heap.size + 1) (l8, b8 || decide (23 < HH)) _ [58] (by exact P7.out.rd)).mono ?_
          rw [H9.out]
          rintro x W8 ⟨⟨v, rfl⟩, hp⟩
          have P8 := Lib.hid (P7.out.step hp)
          clear hp P7
          go_wp2_with fail
          refine (two_st (w.heap.size + 1) z9 _ (by exact P8.out.rd) l9).mono ?_
          rw [H11.out]
          rintro x W9 ⟨rfl, hp⟩
          have P9 := Lib.hid (P8.out.step hp)
          clear hp P8
          obtain ⟨v0, v1, v2, v3⟩ := P9.out.cells
          simp only at v0 v1
          go_upto_region 20 with fail
          go_cut [78] from 68 to 78 (fun _ wx => PW w wx (l11, b11 || decide (59 < MI)) Y M D H I E)
          case first =>
            have P10 := Lib.hid (P9.out.bad (b11 || decide (59 < MI)))
            clear P9
            rcases b11 with _ | _
            · go_wp2
              go_meet
              rw [show decide ((59 : Int) < (MI : Int)) = decide (59 < MI) from by rw [decide_eq_decide]; omega]
              exact P10.out
            · go_wp2
              go_meet
              exact P10.out
          case rest =>
            have HW := Lib.hid hcut
            clear hcut P9 v0 v1 v2 v3 HY HX0 H1 H2 H3 H4 H5 H6 H7 H8 H9 H11 HZZ HMM HT90 HT45 HF l0 l1 l2 l3 l4 l5
            have HZ := HPZ
            clear HPZ
            generalize (b11 || decide (59 < MI)) = bz at *
            generalize l11 = lz at *
            go_wp2_with fail
            go_step3
            generalize hOF : (-((HH : Int) * 3600 + (MI : Int) * 60)) = OF at *
            have bOF : -1000000 ≤ OF ∧ OF ≤ 1000000 := by omega
            obtain ⟨o1, o2⟩ := bOF
            clear hOF
            rcases hof : ofD Y M D H I E with _ | t
            · have HP : Hid (parseT s = none) := Lib.hid (by rw [HZ.out, hof])
              have HOF := Lib.hid hof
              clear hof HZ
              go_wp2_with fail
              refine (of_any ev _ Y M D H I E _ (by exact ofin_of HE.out h8 HW.out bY bM bD bH bI bE)).mono ?_
              rintro x W5 ⟨rfl, hb5⟩
              rw [HOF.out]
              simp only [resO]
              have PX := Lib.hid (HW.out.old hb5)
              have hcv := (HE.out.below PX.out.below h8).value
              obtain ⟨q0, q1, q2, q3⟩ := PX.out.cells
              obtain ⟨t0, t1, t2, t3⟩ := PX.out.ans
              have hz5 : w.heap.size + 1 + 1 < W5.heap.size := PX.out.date.lt
              have hz6 : w.heap.size < W5.heap.size := by omega
              have hz7 : w.heap.size + 1 < W5.heap.size := by omega
              have hz8 : 0 < W5.heap.size := by omega
              simp only at q0 q1
              clear hb5
              rcases bz with _ | _
              · rcases lz with _ | ⟨b, r⟩
                · have q9 : W5.cell? ⟨w.heap.size + 1, 0, none⟩ = some (.string ⟨#[]⟩) := q0
                  clear q0
                  go_wp2_with fail
                  go_region
                  go_wp2
                  try simp only [Exit.jump]
                  exact bodyPost_ret (results_pt _ _ w.heap.size (.int .i64 0) (.int .i64 0) rfl (by first | exact ((PX.out.res.put 0 _).put 1 _).alloc _ | exact (((PX.out.res.put 0 _).put 1 _).alloc _).alloc _)) rfl ⟨by rw [HP.out]; rfl, (by repeat (first | exact PX.out.below | refine Below.drew ?_ | refine below_drewN ?_ _ | refine Below.alloc ?_ (by simp <;> omega) _ | refine Below.setCell ?_ (by simp <;> omega) _))⟩
                · have hne : (!(b :: r).isEmpty) = true := rfl
                  go_wp2_with fail
                  go_region
                  go_wp2
                  try simp only [Exit.jump]
                  exact bodyPost_ret (results_pt _ _ w.heap.size (.int .i64 0) (.int .i64 0) rfl (by first | exact ((PX.out.res.put 0 _).put 1 _).alloc _ | exact (((PX.out.res.put 0 _).put 1 _).alloc _).alloc _)) rfl ⟨by rw [HP.out]; rfl, (by repeat (first | exact PX.out.below | refine Below.drew ?_ | refine below_drewN ?_ _ | refine Below.alloc ?_ (by simp <;> omega) _ | refine Below.setCell ?_ (by simp <;> omega) _))⟩
              · skip
                go_wp2_with fail
                go_region
                go_wp2
                try simp only [Exit.jump]
                exact bodyPost_ret (results_pt _ _ w.heap.size (.int .i64 0) (.int .i64 0) rfl (by first | exact ((PX.out.res.put 0 _).put 1 _).alloc _ | exact (((PX.out.res.put 0 _).put 1 _).alloc _).alloc _)) rfl ⟨by rw [HP.out]; rfl, (by repeat (first | exact PX.out.below | refine Below.drew ?_ | refine below_drewN ?_ _ | refine Below.alloc ?_ (by simp <;> omega) _ | refine Below.setCell ?_ (by simp <;> omega) _))⟩
            · have HOF := Lib.hid hof
              have htb := ofD_bd hof
              clear hof
              rcases bz with _ | _
              · rcases lz with _ | ⟨b, r⟩
                · cases hok : okT (t + OF) N
                  · have HP : Hid (parseT s = none) := Lib.hid (by rw [HZ.out, HOF.out]; simp only [hok]; simp)
                    have HOK := Lib.hid hok
                    clear hok HZ
                    go_wp2_with fail
                    refine (of_any ev _ Y M D H I E _ (by exact ofin_of HE.out h8 HW.out bY bM bD bH bI bE)).mono ?_
                    rintro x W5 ⟨rfl, hb5⟩
                    rw [HOF.out]
                    simp only [resO]
                    have PX := Lib.hid (HW.out.old hb5)
                    have hcv := (HE.out.below PX.out.below h8).value
                    obtain ⟨q0, q1, q2, q3⟩ := PX.out.cells
                    obtain ⟨t0, t1, t2, t3⟩ := PX.out.ans
                    have hz5 : w.heap.size + 1 + 1 < W5.heap.size := PX.out.date.lt
                    have hz6 : w.heap.size < W5.heap.size := by omega
                    have hz7 : w.heap.size + 1 < W5.heap.size := by omega
                    have hz8 : 0 < W5.heap.size := by omega
                    simp only at q0 q1
                    clear hb5
                    have q9 : W5.cell? ⟨w.heap.size + 1, 0, none⟩ = some (.string ⟨#[]⟩) := q0
                    clear q0
                    go_wp2_with fail
                    refine (valid_any (t + OF) N _).mono ?_
                    rw [HOK.out]
                    rintro x W6 ⟨rfl, rfl⟩
                    go_wp2_with fail
                    go_region
                    go_wp2
                    try simp only [Exit.jump]
                    exact bodyPost_ret (results_pt _ _ w.heap.size (.int .i64 0) (.int .i64 0) rfl (by first | exact ((PX.out.res.put 0 _).put 1 _).alloc _ | exact (((PX.out.res.put 0 _).put 1 _).alloc _).alloc _)) rfl ⟨by rw [HP.out]; rfl, (by repeat (first | exact PX.out.below | refine Below.drew ?_ | refine below_drewN ?_ _ | refine Below.alloc ?_ (by simp <;> omega) _ | refine Below.setCell ?_ (by simp <;> omega) _))⟩
                  · have HP : Hid (parseT s = some (t + OF, (N : Int))) := Lib.hid (by rw [HZ.out, HOF.out]; simp only [hok]; simp)
                    have HOK := Lib.hid hok
                    clear hok HZ
                    go_wp2_with fail
                    refine (of_any ev _ Y M D H I E _ (by exact ofin_of HE.out h8 HW.out bY bM bD bH bI bE)).mono ?_
                    rintro x W5 ⟨rfl, hb5⟩
                    rw [HOF.out]
                    simp only [resO]
                    have PX := Lib.hid (HW.out.old hb5)
                    have hcv := (HE.out.below PX.out.below h8).value
                    obtain ⟨q0, q1, q2, q3⟩ := PX.out.cells
                    obtain ⟨t0, t1, t2, t3⟩ := PX.out.ans
                    have hz5 : w.heap.size + 1 + 1 < W5.heap.size := PX.out.date.lt
                    have hz6 : w.heap.size < W5.heap.size := by omega
                    have hz7 : w.heap.size + 1 < W5.heap.size := by omega
                    have hz8 : 0 < W5.heap.size := by omega
                    simp only at q0 q1
                    clear hb5
                    have q9 : W5.cell? ⟨w.heap.size + 1, 0, none⟩ = some (.string ⟨#[]⟩) := q0
                    clear q0
                    go_wp2_with fail
                    refine (valid_any (t + OF) N _).mono ?_
                    rw [HOK.out]
                    rintro x W6 ⟨rfl, rfl⟩
                    go_wp2
                    try simp only [Exit.jump]
                    exact bodyPost_ret (results_pt _ _ w.heap.size (.int .i64 (t + OF)) (.int .i64 (N : Int)) rfl (by first | exact (((PX.out.res.put 0 _).put 1 _).alloc _).alloc _ | exact ((PX.out.res.put 0 _).put 1 _).alloc _)) rfl ⟨by rw [HP.out]; rfl, (by repeat (first | exact PX.out.below | refine Below.drew ?_ | refine below_drewN ?_ _ | refine Below.alloc ?_ (by simp <;> omega) _ | refine Below.setCell ?_ (by simp <;> omega) _))⟩
                · have HP : Hid (parseT s = none) := Lib.hid (by rw [HZ.out, HOF.out]; simp)
                  clear HZ
                  have hne : (!(b :: r).isEmpty) = true := rfl
                  go_wp2_with fail
                  refine (of_any ev _ Y M D H I E _ (by exact ofin_of HE.out h8 HW.out bY bM bD bH bI bE)).mono ?_
                  rintro x W5 ⟨rfl, hb5⟩
                  rw [HOF.out]
                  simp only [resO]
                  have PX := Lib.hid (HW.out.old hb5)
                  have hcv := (HE.out.below PX.out.below h8).value
                  obtain ⟨q0, q1, q2, q3⟩ := PX.out.cells
                  obtain ⟨t0, t1, t2, t3⟩ := PX.out.ans
                  have hz5 : w.heap.size + 1 + 1 < W5.heap.size := PX.out.date.lt
                  have hz6 : w.heap.size < W5.heap.size := by omega
                  have hz7 : w.heap.size + 1 < W5.heap.size := by omega
                  have hz8 : 0 < W5.heap.size := by omega
                  simp only at q0 q1
                  clear hb5
                  go_wp2_with fail
                  go_region
                  go_wp2
                  try simp only [Exit.jump]
                  exact bodyPost_ret (results_pt _ _ w.heap.size (.int .i64 0) (.int .i64 0) rfl (by first | exact ((PX.out.res.put 0 _).put 1 _).alloc _ | exact (((PX.out.res.put 0 _).put 1 _).alloc _).alloc _)) rfl ⟨by rw [HP.out]; rfl, (by repeat (first | exact PX.out.below | refine Below.drew ?_ | refine below_drewN ?_ _ | refine Below.alloc ?_ (by simp <;> omega) _ | refine Below.setCell ?_ (by simp <;> omega) _))⟩
              · have HP : Hid (parseT s = none) := Lib.hid (by rw [HZ.out, HOF.out]; simp)
                clear HZ
                go_wp2_with fail
                refine (of_any ev _ Y M D H I E _ (by exact ofin_of HE.out h8 HW.out bY bM bD bH bI bE)).mono ?_
                rintro x W5 ⟨rfl, hb5⟩
                rw [HOF.out]
                simp only [resO]
                have PX := Lib.hid (HW.out.old hb5)
                have hcv := (HE.out.below PX.out.below h8).value
                obtain ⟨q0, q1, q2, q3⟩ := PX.out.cells
                obtain ⟨t0, t1, t2, t3⟩ := PX.out.ans
                have hz5 : w.heap.size + 1 + 1 < W5.heap.size := PX.out.date.lt
                have hz6 : w.heap.size < W5.heap.size := by omega
                have hz7 : w.heap.size + 1 < W5.heap.size := by omega
                have hz8 : 0 < W5.heap.size := by omega
                simp only at q0 q1
                clear hb5
                go_wp2_with fail
                go_region
                go_wp2
                try simp only [Exit.jump]
                exact bodyPost_ret (results_pt _ _ w.heap.size (.int .i64 0) (.int .i64 0) rfl (by first | exact ((PX.out.res.put 0 _).put 1 _).alloc _ | exact (((PX.out.res.put 0 _).put 1 _).alloc _).alloc _)) rfl ⟨by rw [HP.out]; rfl, (by repeat (first | exact PX.out.below | refine Below.drew ?_ | refine below_drewN ?_ _ | refine Below.alloc ?_ (by simp <;> omega) _ | refine Below.setCell ?_ (by simp <;> omega) _))⟩

theorem parse_any (s : List UInt8) (w : World) (ev : Addr) (he : EnvS w ev) (hs : s.length ≤ 1000) :
    Calls Tryd.prog 12 #[.string ⟨s.toArray⟩] w fun e w' => e = .returned (resT ev (parseT s)) ∧ Below w.heap.size w w' := by
  obtain ⟨Y, M, D, H, I, E, N, x0, x1, x2, x3, x4, x5, x6, hf⟩ := front_of s
  cases hz : Lib.hasPrefix x6.1 [90]
  · cases hm : Lib.hasPrefix x6.1 [45]
    · exact parse_p s w ev he hs hf hz hm
    · exact parse_m s w ev he hs hf hz hm
  · exact parse_z s w ev he hs hf hz
end Go.Proofs.YtacmlpgakibdgaaDoor
