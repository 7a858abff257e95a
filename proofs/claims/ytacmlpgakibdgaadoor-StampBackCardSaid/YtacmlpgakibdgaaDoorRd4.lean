/-
  Contract: stamp.Parse, a text that ends in Z.
-/
import Derived.Test.YtacmlpgakibdgaaDoorRd3
namespace Go.Proofs.YtacmlpgakibdgaaDoor
open Go.RowKit Go.Own Go.Own.Dig Go.Own.Alg

/-- Parse's memory when so many parts are read. -/
def PK (w W : World) (x0 x1 x2 x3 x4 x5 : St) (Y M D H I E : Nat) : Nat → Prop
  | 0 => PW w W x0 Y 0 0 0 0 0
  | 1 => PW w W x1 Y M 0 0 0 0
  | 2 => PW w W x2 Y M D 0 0 0
  | 3 => PW w W x3 Y M D H 0 0
  | 4 => PW w W x4 Y M D H I 0
  | _ => PW w W x5 Y M D H I E

theorem results_pt (tmps : Array Value) (w : World) (g : Nat) (a b : Value) (ht : tmps[2]? = some (.pointer (some ⟨g, 0, none⟩))) (hb : Blk w g 24 #[a, b]) :
    (results Tryd.f12 tmps).run Tryd.prog w = .ok (.tuple #[.agg #[a, b], tmps.getD 3 undef]) w := by
  have c0 : w.cell? ⟨g, 0, none⟩ = some a := hb.cell 0
  have c1 : w.cell? ⟨g, 1, none⟩ = some b := hb.cell 1
  simp [results, Tryd.results12, go_sem, ht, c0, c1]
theorem ofD_bd {y m d h i e t : Int} (hh : ofD y m d h i e = some t) : -62135596800 ≤ t ∧ t ≤ 253402300799 := by
  unfold ofD at hh
  split at hh
  · rename_i hc
    obtain ⟨c1, c2, c3, c4, c5, c6, c7, c8, c9, c10, c11, c12⟩ := hc
    have := (Cal.IsDate.mk c1 c2 c3 c4 c5 c6).bd
    injection hh with hh
    omega
  · cases hh

set_option maxHeartbeats 4000000 in
set_option maxRecDepth 100000 in
theorem parse_z (s : List UInt8) (w : World) (ev : Addr) (he : EnvS w ev) (hs : s.length ≤ 1000) {Y M D H I E N : Nat} {x0 x1 x2 x3 x4 x5 x6 : St} (hf : Front s Y M D H I E N x0 x1 x2 x3 x4 x5 x6) (hz : Lib.hasPrefix x6.1 [90] = true) :
    Calls Tryd.prog 12 #[.string ⟨s.toArray⟩] w fun e w' => e = .returned (resT ev (parseT s)) ∧ Below w.heap.size w w' := by
  have hmk : ∀ W : World, (Instr.makeSlice 25 (.int .i64 6) (.int .i64 6)).run Tryd.prog W = .ok (.slice (some ⟨W.heap.size, 0, none⟩) 6 6) (W.alloc (.cells (sixOf 0 0 0 0 0 0) 3)) := fun _ => by kernel_rfl
  unfold sixOf at hmk
  have HE := Lib.hid he
  have h8 := he.room
  obtain ⟨⟨hY, hx0⟩, h1, h2, h3, h4, h5, h6, bY, bM, bD, bH, bI, bE, bN, l0, l1, l2, l3, l4, l5, l6⟩ := id hf
  have HF := Lib.hid hf
  have HY := Lib.hid hY; have HX0 := Lib.hid hx0; have H1 := Lib.hid h1; have H2 := Lib.hid h2; have H3 := Lib.hid h3; have H4 := Lib.hid h4; have H5 := Lib.hid h5; have H6 := Lib.hid h6
  have HPZ : Hid (parseT s = match ofD Y M D H I E with | none => none | some t => if x6.2 = false ∧ Lib.trimPrefix x6.1 [90] = [] ∧ okT (t + 0) N = true then some (t + 0, (N : Int)) else none) := Lib.hid (parse_front hf (by unfold rZone; rw [if_pos hz]))
  have HZZ := Lib.hid hz
  clear he hf hY hx0 h1 h2 h3 h4 h5 h6 hz
  go_enter Tryd.func12, Tryd.ntmps12
  go_wp2_with fail
  refine wp_scope_jumps 0 (fun a W => PJ s w N a ∧ PW w W (Lib.trimPrefix x6.1 [90], x6.2) Y M D H I E) (fun _ _ => 0) rfl ?_ ?_
  · skip
    go_wp2_with fail
    have hW0 : PW w (((w.alloc (.cells #[.int .i64 0, .int .i64 0] 24)).alloc (.cells #[.string ⟨s.toArray⟩, .bool false] 58)).alloc (.cells #[.int .i64 0, .int .i64 0, .int .i64 0, .int .i64 0, .int .i64 0, .int .i64 0] 3)) (s, false) 0 0 0 0 0 0 :=
      ⟨(((Below.refl _ _).alloc (Nat.le_refl _) _).alloc (by simp) _).alloc (by simp; omega) _, ((Blk.new w _ _).alloc _).alloc _, Blk.alloc (by have h := Blk.new (w.alloc (.cells #[.int .i64 0, .int .i64 0] 24)) 58 #[.string ⟨s.toArray⟩, .bool false]; rw [World.size_alloc] at h; exact h) _, by have h := Blk.new ((w.alloc (.cells #[.int .i64 0, .int .i64 0] 24)).alloc (.cells #[.string ⟨s.toArray⟩, .bool false] 58)) 3 (sixOf 0 0 0 0 0 0); rw [World.size_alloc, World.size_alloc] at h; exact h⟩
    generalize ((w.alloc (.cells #[.int .i64 0, .int .i64 0] 24)).alloc (.cells #[.string ⟨s.toArray⟩, .bool false] 58)).alloc _ = W0 at hW0 ⊢
    have P0 := Lib.hid hW0
    clear hW0
    refine (digits_any (w.heap.size + 1) 4 4 s false _ (by exact P0.out.rd) (by omega) (by omega) (by omega)).mono ?_
    rw [HY.out, HX0.out]
    generalize (rDig 4 4 (s, false)).2.1 = cY
    rintro e W1 ⟨rfl, hp⟩
    have P1 := Lib.hid (P0.out.step hp)
    clear hp P0
    have z0 := P1.out.thaw 0
    obtain ⟨d0, _, _, _, _, _⟩ := P1.out.dates
    go_wp2_with fail
    have hgs : w.heap.size + 1 + 1 < W1.heap.size := P1.out.date.lt
    have hW2 : PW w ((W1.setCell ⟨w.heap.size + 1 + 1, 0, none⟩ (.int .i64 (Y : Int))).alloc (.cells signT 9)) x0 Y 0 0 0 0 0 := (P1.out.put 0 _ rfl).old ((Below.refl _ _).alloc (Nat.le_refl _) _)
    have hS2 : Blk ((W1.setCell ⟨w.heap.size + 1 + 1, 0, none⟩ (.int .i64 (Y : Int))).alloc (.cells signT 9)) W1.heap.size 9 signT := by
      have h := Blk.new (W1.setCell ⟨w.heap.size + 1 + 1, 0, none⟩ (.int .i64 (Y : Int))) 9 signT
      rw [show (W1.setCell ⟨w.heap.size + 1 + 1, 0, none⟩ (.int .i64 (Y : Int))).heap.size = W1.heap.size by simp] at h
      exact h
    unfold signT at hW2 hS2
    generalize hW1s : W1.heap.size = gs at *
    clear hW1s
    generalize (W1.setCell _ _).alloc _ = W2 at hW2 hS2 ⊢
    have P2 := Lib.hid hW2
    have S2 := Lib.hid hS2
    clear hW2 hS2 P1 z0 d0 hmk
    go_loopw [27, 6, 7] (fun ix _ _ wr => ∃ k : Nat, k ≤ 5 ∧ ix = .int .i64 k ∧ PK w wr x0 x1 x2 x3 x4 x5 Y M D H I E k ∧ Blk wr gs 9 #[.string ⟨#[45]⟩, .string ⟨#[45]⟩, .string ⟨#[84]⟩, .string ⟨#[58]⟩, .string ⟨#[58]⟩]) (fun ix _ _ _ => 5 - (intOf ix).toNat)
    case atStart => exact ⟨0, by omega, rfl, P2.out, S2.out⟩
    case round =>
      obtain ⟨k, hk, rfl, hpk, hsb⟩ := hrel
      have hk' : k = 0 ∨ k = 1 ∨ k = 2 ∨ k = 3 ∨ k = 4 ∨ k = 5 := by omega
      have s0 : wr.cell? ⟨gs, 0, none⟩ = some (.string ⟨#[45]⟩) := hsb.cell 0
      have s1 : wr.cell? ⟨gs, 1, none⟩ = some (.string ⟨#[45]⟩) := hsb.cell 1
      have s2 : wr.cell? ⟨gs, 2, none⟩ = some (.string ⟨#[84]⟩) := hsb.cell 2
      have s3 : wr.cell? ⟨gs, 3, none⟩ = some (.string ⟨#[58]⟩) := hsb.cell 3
      have s4 : wr.cell? ⟨gs, 4, none⟩ = some (.string ⟨#[58]⟩) := hsb.cell 4
      have SR := Lib.hid hsb
      clear hk hsb P2 S2
      rcases hk' with rfl | rfl | rfl | rfl | rfl | rfl
      · have PR : Hid (PW w wr x0 Y 0 0 0 0 0) := Lib.hid hpk
        clear hpk
        go_wp2_with fail
        refine (must_st (w.heap.size + 1) x0 _ [45] (by exact PR.out.rd)).mono ?_
        rintro x W3 ⟨⟨v, rfl⟩, hp⟩
        have P3 := Lib.hid (PR.out.step hp)
        have S3 := Lib.hid (SR.out.grown hp.2 (by simp; omega))
        clear hp
        go_wp2_with fail
        refine (two_st (w.heap.size + 1) (rMust [45] x0) _ (by exact P3.out.rd) (by have := must_len [45] x0; omega)).mono ?_
        rw [H1.out]
        rintro x W4 ⟨rfl, hp⟩
        have P4 := Lib.hid (P3.out.step hp)
        have S4 := Lib.hid (S3.out.grown hp.2 (by simp; omega))
        clear hp
        have zk := P4.out.thaw 1
        obtain ⟨f0, f1, f2, f3, f4, f5⟩ := P4.out.dates
        clear s0 s1 s2 s3 s4
        go_wp2
        go_roundw
        case rel => exact ⟨1, by omega, rfl, P4.out.put 1 _ rfl, S4.out.far (by simp; omega) _⟩
        case measure => simp [intOf]
      · have PR : Hid (PW w wr x1 Y M 0 0 0 0) := Lib.hid hpk
        clear hpk
        go_wp2_with fail
        refine (must_st (w.heap.size + 1) x1 _ [45] (by exact PR.out.rd)).mono ?_
        rintro x W3 ⟨⟨v, rfl⟩, hp⟩
        have P3 := Lib.hid (PR.out.step hp)
        have S3 := Lib.hid (SR.out.grown hp.2 (by simp; omega))
        clear hp
        go_wp2_with fail
        refine (two_st (w.heap.size + 1) (rMust [45] x1) _ (by exact P3.out.rd) (by have := must_len [45] x1; omega)).mono ?_
        rw [H2.out]
        rintro x W4 ⟨rfl, hp⟩
        have P4 := Lib.hid (P3.out.step hp)
        have S4 := Lib.hid (S3.out.grown hp.2 (by simp; omega))
        clear hp
        have zk := P4.out.thaw 2
        obtain ⟨f0, f1, f2, f3, f4, f5⟩ := P4.out.dates
        clear s0 s1 s2 s3 s4
        go_wp2
        go_roundw
        case rel => exact ⟨2, by omega, rfl, P4.out.put 2 _ rfl, S4.out.far (by simp; omega) _⟩
        case measure => simp [intOf]
      · have PR : Hid (PW w wr x2 Y M D 0 0 0) := Lib.hid hpk
        clear hpk
        go_wp2_with fail
        refine (must_st (w.heap.size + 1) x2 _ [84] (by exact PR.out.rd)).mono ?_
        rintro x W3 ⟨⟨v, rfl⟩, hp⟩
        have P3 := Lib.hid (PR.out.step hp)
        have S3 := Lib.hid (SR.out.grown hp.2 (by simp; omega))
        clear hp
        go_wp2_with fail
        refine (two_st (w.heap.size + 1) (rMust [84] x2) _ (by exact P3.out.rd) (by have := must_len [84] x2; omega)).mono ?_
        rw [H3.out]
        rintro x W4 ⟨rfl, hp⟩
        have P4 := Lib.hid (P3.out.step hp)
        have S4 := Lib.hid (S3.out.grown hp.2 (by simp; omega))
        clear hp
        have zk := P4.out.thaw 3
        obtain ⟨f0, f1, f2, f3, f4, f5⟩ := P4.out.dates
        clear s0 s1 s2 s3 s4
        go_wp2
        go_roundw
        case rel => exact ⟨3, by omega, rfl, P4.out.put 3 _ rfl, S4.out.far (by simp; omega) _⟩
        case measure => simp [intOf]
      · have PR : Hid (PW w wr x3 Y M D H 0 0) := Lib.hid hpk
        clear hpk
        go_wp2_with fail
        refine (must_st (w.heap.size + 1) x3 _ [58] (by exact PR.out.rd)).mono ?_
        rintro x W3 ⟨⟨v, rfl⟩, hp⟩
        have P3 := Lib.hid (PR.out.step hp)
        have S3 := Lib.hid (SR.out.grown hp.2 (by simp; omega))
        clear hp
        go_wp2_with fail
        refine (two_st (w.heap.size + 1) (rMust [58] x3) _ (by exact P3.out.rd) (by have := must_len [58] x3; omega)).mono ?_
        rw [H4.out]
        rintro x W4 ⟨rfl, hp⟩
        have P4 := Lib.hid (P3.out.step hp)
        have S4 := Lib.hid (S3.out.grown hp.2 (by simp; omega))
        clear hp
        have zk := P4.out.thaw 4
        obtain ⟨f0, f1, f2, f3, f4, f5⟩ := P4.out.dates
        clear s0 s1 s2 s3 s4
        go_wp2
        go_roundw
        case rel => exact ⟨4, by omega, rfl, P4.out.put 4 _ rfl, S4.out.far (by simp; omega) _⟩
        case measure => simp [intOf]
      · have PR : Hid (PW w wr x4 Y M D H I 0) := Lib.hid hpk
        clear hpk
        go_wp2_with fail
        refine (must_st (w.heap.size + 1) x4 _ [58] (by exact PR.out.rd)).mono ?_
        rintro x W3 ⟨⟨v, rfl⟩, hp⟩
        have P3 := Lib.hid (PR.out.step hp)
        have S3 := Lib.hid (SR.out.grown hp.2 (by simp; omega))
        clear hp
        go_wp2_with fail
        refine (two_st (w.heap.size + 1) (rMust [58] x4) _ (by exact P3.out.rd) (by have := must_len [58] x4; omega)).mono ?_
        rw [H5.out]
        rintro x W4 ⟨rfl, hp⟩
        have P4 := Lib.hid (P3.out.step hp)
        have S4 := Lib.hid (S3.out.grown hp.2 (by simp; omega))
        clear hp
        have zk := P4.out.thaw 5
        obtain ⟨f0, f1, f2, f3, f4, f5⟩ := P4.out.dates
        clear s0 s1 s2 s3 s4
        go_wp2
        go_roundw
        case rel => exact ⟨5, by omega, rfl, P4.out.put 5 _ rfl, S4.out.far (by simp; omega) _⟩
        case measure => simp [intOf]
      · have PR : Hid (PW w wr x5 Y M D H I E) := Lib.hid hpk
        clear hpk s0 s1 s2 s3 s4 SR
        go_wp2_with fail
        refine (frac_st (w.heap.size + 1) x5 _ (by exact PR.out.rd) (by omega)).mono ?_
        rw [H6.out]
        rintro x W3 ⟨rfl, hp⟩
        have P3 := Lib.hid (PR.out.step hp)
        clear hp PR
        go_wp2_with fail
        refine (take_st (w.heap.size + 1) x6 _ [90] (by exact P3.out.rd)).mono ?_
        rw [HZZ.out]
        rintro x W4 ⟨rfl, hp⟩
        have P4 := Lib.hid (P3.out.step hp)
        clear hp P3
        go_wp2_with fail
        go_step3
        exact ⟨rfl, ⟨rfl, rfl, rfl, rfl, rfl, rfl, rfl, rfl, rfl⟩, P4.out⟩
  · rintro a W ⟨hj, hw⟩
    obtain ⟨u, rfl⟩ := hj.frame
    have HW := Lib.hid hw
    clear hj hw HY HX0 H1 H2 H3 H4 H5 H6 HZZ hmk HF l0 l1 l2 l3 l4 l5
    have HZ := HPZ
    clear HPZ
    obtain ⟨lz, hlz⟩ : ∃ lz, Lib.trimPrefix x6.1 [90] = lz := ⟨_, rfl⟩
    obtain ⟨bz, hbz⟩ : ∃ bz, x6.2 = bz := ⟨_, rfl⟩
    rw [hlz, hbz] at HW HZ
    clear hlz hbz
    rcases hof : ofD Y M D H I E with _ | t
    · have HP : Hid (parseT s = none) := Lib.hid (by rw [HZ.out, hof])
      have HOF := Lib.hid hof
      clear hof HZ
      go_wp2_with fail
      refine (of_any ev _ Y M D H I E _ (by exact ofin_of HE.out h8 HW.out bY bM bD bH bI bE)).mono ?_
      rintro x W5 ⟨rfl, hb5⟩
      rw [HOF.out]
      simp only [resO]
      have PX := Lib.hid (HW.out.old hb5)
      have hcv := (HE.out.below PX.out.below h8).value
      obtain ⟨q0, q1, q2, q3⟩ := PX.out.cells
      obtain ⟨t0, t1, t2, t3⟩ := PX.out.ans
      have hz5 : w.heap.size + 1 + 1 < W5.heap.size := PX.out.date.lt
      have hz6 : w.heap.size < W5.heap.size := by omega
      have hz7 : w.heap.size + 1 < W5.heap.size := by omega
      have hz8 : 0 < W5.heap.size := by omega
      simp only at q0 q1
      clear hb5
      rcases bz with _ | _
      · rcases lz with _ | ⟨b, r⟩
        · have q9 : W5.cell? ⟨w.heap.size + 1, 0, none⟩ = some (.string ⟨#[]⟩) := q0
          clear q0
          go_wp2_with fail
          go_region
          go_wp2
          try simp only [Exit.jump]
          exact bodyPost_ret (results_pt _ _ w.heap.size (.int .i64 0) (.int .i64 0) rfl (by first | exact ((PX.out.res.put 0 _).put 1 _).alloc _ | exact (((PX.out.res.put 0 _).put 1 _).alloc _).alloc _)) rfl ⟨by rw [HP.out]; rfl, (by repeat (first | exact PX.out.below | refine Below.drew ?_ | refine below_drewN ?_ _ | refine Below.alloc ?_ (by simp <;> omega) _ | refine Below.setCell ?_ (by simp <;> omega) _))⟩
        · have hne : (!(b :: r).isEmpty) = true := rfl
          go_wp2_with fail
          go_region
          go_wp2
          try simp only [Exit.jump]
          exact bodyPost_ret (results_pt _ _ w.heap.size (.int .i64 0) (.int .i64 0) rfl (by first | exact ((PX.out.res.put 0 _).put 1 _).alloc _ | exact (((PX.out.res.put 0 _).put 1 _).alloc _).alloc _)) rfl ⟨by rw [HP.out]; rfl, (by repeat (first | exact PX.out.below | refine Below.drew ?_ | refine below_drewN ?_ _ | refine Below.alloc ?_ (by simp <;> omega) _ | refine Below.setCell ?_ (by simp <;> omega) _))⟩
      · skip
        go_wp2_with fail
        go_region
        go_wp2
        try simp only [Exit.jump]
        exact bodyPost_ret (results_pt _ _ w.heap.size (.int .i64 0) (.int .i64 0) rfl (by first | exact ((PX.out.res.put 0 _).put 1 _).alloc _ | exact (((PX.out.res.put 0 _).put 1 _).alloc _).alloc _)) rfl ⟨by rw [HP.out]; rfl, (by repeat (first | exact PX.out.below | refine Below.drew ?_ | refine below_drewN ?_ _ | refine Below.alloc ?_ (by simp <;> omega) _ | refine Below.setCell ?_ (by simp <;> omega) _))⟩
    · have HOF := Lib.hid hof
      have htb := ofD_bd hof
      clear hof
      rcases bz with _ | _
      · rcases lz with _ | ⟨b, r⟩
        · cases hok : okT (t + 0) N
          · have HP : Hid (parseT s = none) := Lib.hid (by rw [HZ.out, HOF.out]; simp only [hok]; simp)
            have HOK := Lib.hid hok
            clear hok HZ
            go_wp2_with fail
            refine (of_any ev _ Y M D H I E _ (by exact ofin_of HE.out h8 HW.out bY bM bD bH bI bE)).mono ?_
            rintro x W5 ⟨rfl, hb5⟩
            rw [HOF.out]
            simp only [resO]
            have PX := Lib.hid (HW.out.old hb5)
            have hcv := (HE.out.below PX.out.below h8).value
            obtain ⟨q0, q1, q2, q3⟩ := PX.out.cells
            obtain ⟨t0, t1, t2, t3⟩ := PX.out.ans
            have hz5 : w.heap.size + 1 + 1 < W5.heap.size := PX.out.date.lt
            have hz6 : w.heap.size < W5.heap.size := by omega
            have hz7 : w.heap.size + 1 < W5.heap.size := by omega
            have hz8 : 0 < W5.heap.size := by omega
            simp only at q0 q1
            clear hb5
            have q9 : W5.cell? ⟨w.heap.size + 1, 0, none⟩ = some (.string ⟨#[]⟩) := q0
            clear q0
            go_wp2_with fail
            rw [Int.add_zero] at HOK
            refine (valid_any t N _).mono ?_
            rw [HOK.out]
            rintro x W6 ⟨rfl, rfl⟩
            go_wp2_with fail
            go_region
            go_wp2
            try simp only [Exit.jump]
            exact bodyPost_ret (results_pt _ _ w.heap.size (.int .i64 0) (.int .i64 0) rfl (by first | exact ((PX.out.res.put 0 _).put 1 _).alloc _ | exact (((PX.out.res.put 0 _).put 1 _).alloc _).alloc _)) rfl ⟨by rw [HP.out]; rfl, (by repeat (first | exact PX.out.below | refine Below.drew ?_ | refine below_drewN ?_ _ | refine Below.alloc ?_ (by simp <;> omega) _ | refine Below.setCell ?_ (by simp <;> omega) _))⟩
          · have HP : Hid (parseT s = some (t + 0, (N : Int))) := Lib.hid (by rw [HZ.out, HOF.out]; simp only [hok]; simp)
            have HOK := Lib.hid hok
            clear hok HZ
            go_wp2_with fail
            refine (of_any ev _ Y M D H I E _ (by exact ofin_of HE.out h8 HW.out bY bM bD bH bI bE)).mono ?_
            rintro x W5 ⟨rfl, hb5⟩
            rw [HOF.out]
            simp only [resO]
            have PX := Lib.hid (HW.out.old hb5)
            have hcv := (HE.out.below PX.out.below h8).value
            obtain ⟨q0, q1, q2, q3⟩ := PX.out.cells
            obtain ⟨t0, t1, t2, t3⟩ := PX.out.ans
            have hz5 : w.heap.size + 1 + 1 < W5.heap.size := PX.out.date.lt
            have hz6 : w.heap.size < W5.heap.size := by omega
            have hz7 : w.heap.size + 1 < W5.heap.size := by omega
            have hz8 : 0 < W5.heap.size := by omega
            simp only at q0 q1
            clear hb5
            have q9 : W5.cell? ⟨w.heap.size + 1, 0, none⟩ = some (.string ⟨#[]⟩) := q0
            clear q0
            go_wp2_with fail
            rw [Int.add_zero] at HOK HP
            refine (valid_any t N _).mono ?_
            rw [HOK.out]
            rintro x W6 ⟨rfl, rfl⟩
            go_wp2
            try simp only [Exit.jump]
            exact bodyPost_ret (results_pt _ _ w.heap.size (.int .i64 (t)) (.int .i64 (N : Int)) rfl (by first | exact (((PX.out.res.put 0 _).put 1 _).alloc _).alloc _ | exact ((PX.out.res.put 0 _).put 1 _).alloc _)) rfl ⟨by rw [HP.out]; rfl, (by repeat (first | exact PX.out.below | refine Below.drew ?_ | refine below_drewN ?_ _ | refine Below.alloc ?_ (by simp <;> omega) _ | refine Below.setCell ?_ (by simp <;> omega) _))⟩
        · have HP : Hid (parseT s = none) := Lib.hid (by rw [HZ.out, HOF.out]; simp)
          clear HZ
          have hne : (!(b :: r).isEmpty) = true := rfl
          go_wp2_with fail
          refine (of_any ev _ Y M D H I E _ (by exact ofin_of HE.out h8 HW.out bY bM bD bH bI bE)).mono ?_
          rintro x W5 ⟨rfl, hb5⟩
          rw [HOF.out]
          simp only [resO]
          have PX := Lib.hid (HW.out.old hb5)
          have hcv := (HE.out.below PX.out.below h8).value
          obtain ⟨q0, q1, q2, q3⟩ := PX.out.cells
          obtain ⟨t0, t1, t2, t3⟩ := PX.out.ans
          have hz5 : w.heap.size + 1 + 1 < W5.heap.size := PX.out.date.lt
          have hz6 : w.heap.size < W5.heap.size := by omega
          have hz7 : w.heap.size + 1 < W5.heap.size := by omega
          have hz8 : 0 < W5.heap.size := by omega
          simp only at q0 q1
          clear hb5
          go_wp2_with fail
          go_region
          go_wp2
          try simp only [Exit.jump]
          exact bodyPost_ret (results_pt _ _ w.heap.size (.int .i64 0) (.int .i64 0) rfl (by first | exact ((PX.out.res.put 0 _).put 1 _).alloc _ | exact (((PX.out.res.put 0 _).put 1 _).alloc _).alloc _)) rfl ⟨by rw [HP.out]; rfl, (by repeat (first | exact PX.out.below | refine Below.drew ?_ | refine below_drewN ?_ _ | refine Below.alloc ?_ (by simp <;> omega) _ | refine Below.setCell ?_ (by simp <;> omega) _))⟩
      · have HP : Hid (parseT s = none) := Lib.hid (by rw [HZ.out, HOF.out]; simp)
        clear HZ
        go_wp2_with fail
        refine (of_any ev _ Y M D H I E _ (by exact ofin_of HE.out h8 HW.out bY bM bD bH bI bE)).mono ?_
        rintro x W5 ⟨rfl, hb5⟩
        rw [HOF.out]
        simp only [resO]
        have PX := Lib.hid (HW.out.old hb5)
        have hcv := (HE.out.below PX.out.below h8).value
        obtain ⟨q0, q1, q2, q3⟩ := PX.out.cells
        obtain ⟨t0, t1, t2, t3⟩ := PX.out.ans
        have hz5 : w.heap.size + 1 + 1 < W5.heap.size := PX.out.date.lt
        have hz6 : w.heap.size < W5.heap.size := by omega
        have hz7 : w.heap.size + 1 < W5.heap.size := by omega
        have hz8 : 0 < W5.heap.size := by omega
        simp only at q0 q1
        clear hb5
        go_wp2_with fail
        go_region
        go_wp2
        try simp only [Exit.jump]
        exact bodyPost_ret (results_pt _ _ w.heap.size (.int .i64 0) (.int .i64 0) rfl (by first | exact ((PX.out.res.put 0 _).put 1 _).alloc _ | exact (((PX.out.res.put 0 _).put 1 _).alloc _).alloc _)) rfl ⟨by rw [HP.out]; rfl, (by repeat (first | exact PX.out.below | refine Below.drew ?_ | refine below_drewN ?_ _ | refine Below.alloc ?_ (by simp <;> omega) _ | refine Below.setCell ?_ (by simp <;> omega) _))⟩
end Go.Proofs.YtacmlpgakibdgaaDoor
