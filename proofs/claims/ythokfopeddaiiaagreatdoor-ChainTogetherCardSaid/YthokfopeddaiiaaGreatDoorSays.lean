/-
  Contracts: parleylaw27.few, says.
-/
import Derived.Test.YthokfopeddaiiaaGreatDoorOne
import Derived.Deep.RegionWith
import Derived.Outline
import Derived.Deep.DeepCutAuto
namespace Go.Proofs.YthokfopeddaiiaaGreatDoor
open Go.RowKit Go.Own Go.Own.Fn Go.Shelf
/-- What the document says. -/
def saysF (l : List (Int × Int)) (x n : Int) : Int × Int := wrapS (l.map oneF) askF x n
theorem run_tail (A : Option Addr) (n c : Nat) (hn : 1 ≤ n) (hc : n ≤ c) (W : World) :
    (Instr.slice 58 (.slice A n c) (some (.int .i64 1)) none none).run Tryz.prog W = .ok (.slice (if c = 1 then A else A.map fun x => x.add 2) (n - 1) (c - 1)) W := by
  obtain ⟨i0, hi, hz0, hz1, hz2⟩ := info_parts (show (Tryz.prog.info? 86).map (fun i => (i.zero, i.size, i.bytes)) = some (some (.agg #[.int .i64 0, .int .i64 0]), 2, 16) by kernel_rfl)
  simp [Instr.slice, run_underlying Tryz.underlying58, Instr.sliceBounds, run_sliceBound, sizeOf, typeInfo, hi, hz1, Result.andThen, show (1 : Int) ≤ n by omega]
theorem On.tail {w : World} {A : Option Addr} {n c : Nat} {o : Int × Int} {l : List (Int × Int)} (h : On w A n (o :: l)) (hc : n ≤ c) : On w (if c = 1 then A else A.map fun x => x.add 2) (n - 1) l := by
  have hl := h.1
  simp at hl
  refine ⟨by omega, fun hn => ?_⟩
  obtain ⟨ad, rfl, hb, hcell⟩ := h.2 (by omega)
  rw [if_neg (by omega)]
  refine ⟨ad.add 2, rfl, by rw [add_block]; exact hb, fun j hj => ?_⟩
  have := hcell (j + 1) (by omega)
  rw [add_two, show 2 + j * 2 = (j + 1) * 2 by omega]
  simpa using this
theorem On.head {w : World} {A : Option Addr} {n : Nat} {o : Int × Int} {l : List (Int × Int)} (h : On w A n (o :: l)) : ∃ ad, A = some ad ∧ w.cell? ad = some (.int .i64 o.1) ∧ w.cell? ⟨ad.block, ad.off + 1, none⟩ = some (.int .i64 o.2) := by
  have hl := h.1
  simp at hl
  obtain ⟨ad, e, hb, hcell⟩ := h.2 (by omega)
  have := hcell 0 (by omega)
  rw [show ad.add (0 * 2) = ad from rfl] at this
  exact ⟨ad, e, by simpa using this⟩
theorem On.grown {w w' : World} {A : Option Addr} {n : Nat} {l : List (Int × Int)} {b : Nat} (h : On w A n l) (hg : w.grownBy w' (some b)) (hb : ∀ ad, 0 < n → A = some ad → ad.block ≠ b) : On w' A n l :=
  ⟨h.1, fun hn => by
    obtain ⟨ad, e, h1, h2⟩ := h.2 hn
    have hne := hb ad hn e
    refine ⟨ad, e, Nat.lt_of_lt_of_le h1 hg.size, fun j hj => ?_⟩
    have k1 : w'.cell? (ad.add (j * 2)) = w.cell? (ad.add (j * 2)) := World.cell?_of_block (by rw [add_block]; exact hg.block _ h1 (by intro e; injection e with e; exact hne e))
    have k2 : w'.cell? ⟨(ad.add (j * 2)).block, (ad.add (j * 2)).off + 1, none⟩ = w.cell? ⟨(ad.add (j * 2)).block, (ad.add (j * 2)).off + 1, none⟩ := World.cell?_of_block (by show w'.heap[(ad.add (j * 2)).block]? = w.heap[(ad.add (j * 2)).block]?; rw [add_block]; exact hg.block _ h1 (by intro e; injection e with e; exact hne e))
    rw [k1, k2]
    exact h2 j hj⟩
def FewPost (n : Nat) (w : World) (e : Ending) (w' : World) : Prop := ∃ r : Bool, e = .returned (.bool r) ∧ (r = true → n ≤ 20) ∧ w' = w
set_option maxRecDepth 100000 in
set_option maxHeartbeats 1000000 in
theorem few_any (A : Option Addr) (n c : Nat) (l : List (Int × Int)) (w : World) (hm : n ≤ 9223372036854775807) (hl : On w A n l) :
    Calls Tryz.prog 23 #[.slice A n c] w (FewPost n w) := by
  have HL := Lib.hid hl
  clear hl
  go_enter Tryz.func23, Tryz.ntmps23
  go_wp2
  go_loop [3, 4] (fun s i => ∃ k q : Nat, k ≤ n ∧ k ≤ 21 ∧ q ≤ k ∧ i = .int .i64 (k : Int) ∧ s = .int .i64 (q : Int)) (fun _ i => 21 - (intOf i).toNat)
  case atStart => exact ⟨0, 0, by omega, by omega, by omega, rfl, rfl⟩
  case round =>
    obtain ⟨k, q, hk, hk2, hq, rfl, rfl⟩ := hrel
    by_cases hlt : k < n ∧ k ≤ 20
    · obtain ⟨hlt, h20⟩ := hlt
      obtain ⟨ad, rfl, hab, hcell⟩ := HL.out.2 (by omega)
      obtain ⟨⟨o1, o2⟩, ho⟩ : ∃ o, l.getD k (0, 0) = o := ⟨_, rfl⟩
      have c0 := (hcell k hlt).1
      rw [ho] at c0
      clear ho hcell
      go_wp2
      all_goals
        go_round
        case rel => first | exact ⟨k + 1, q + 1, by omega, by omega, by omega, by go_num, by go_num⟩ | exact ⟨k + 1, q, by omega, by omega, by omega, by go_num, rfl⟩
        case measure => simp [intOf]; omega
    · go_wp2
      all_goals
        go_ret
        exact ⟨_, rfl, fun h => by first | omega | (simp at h) | (simp at h; omega), rfl⟩
theorem saysF_nil (x n : Int) : saysF [] x n = askF x n := rfl
theorem saysF_cons (o : Int × Int) (l : List (Int × Int)) (x n : Int) : saysF (o :: l) x n = oneF o (saysF l) x n := rfl
set_option maxRecDepth 100000 in
set_option maxHeartbeats 4000000 in
theorem says_times (b : Nat) (l : List (Int × Int)) (ad : Addr) (n c : Nat) (A2 : Option Addr) (k N x s : Int) (w : World) (h1 : ¬ k = 1) (h2 : ¬ k = 2) (h3 : ¬ k = 3) (hn1 : 1 ≤ n) (hc : n ≤ c) (hn : n ≤ 1000)
    (hsl : ∀ W : World, (Instr.slice 58 (.slice (some ad) n c) (some (.int .i64 1)) none none).run Tryz.prog W = .ok (.slice A2 (n - 1) (c - 1)) W)
    (c0 : w.cell? ad = some (.int .i64 k)) (c1 : w.cell? ⟨ad.block, ad.off + 1, none⟩ = some (.int .i64 N))
    (HG1 : Hid (w.grownBy (w.alloc (.cells #[.int .i64 k, .int .i64 N] 86)) (some b))) (HT1 : Hid (On (w.alloc (.cells #[.int .i64 k, .int .i64 N] 86)) A2 (n - 1) l))
    (HB1 : Hid (Blk (w.alloc (.cells #[.int .i64 k, .int .i64 N] 86)) b 50 #[.int .i64 s])) (HN1 : Hid (Blk (w.alloc (.cells #[.int .i64 k, .int .i64 N] 86)) w.heap.size 86 #[.int .i64 k, .int .i64 N]))
    (hne : w.heap.size ≠ b) (HNB : Hid (∀ ad, 0 < n - 1 → A2 = some ad → ad.block ≠ b))
    (IH : Hid (∀ (x s : Int) (W : World), On W A2 (n - 1) l → Blk W b 50 #[.int .i64 s] → Calls Tryz.prog 25 #[.slice A2 (n - 1) (c - 1), .int .i64 x, .pointer (some ⟨b, 0, none⟩)] W fun e w' => e = .returned (.int .i64 (saysF l x s).1) ∧ Blk w' b 50 #[.int .i64 (saysF l x s).2] ∧ W.grownBy w' (some b))) :
    Calls Tryz.prog 25 #[.slice (some ad) n c, .int .i64 x, .pointer (some ⟨b, 0, none⟩)] w fun e w' => e = .returned (.int .i64 (saysF ((k, N) :: l) x s).1) ∧ Blk w' b 50 #[.int .i64 (saysF ((k, N) :: l) x s).2] ∧ w.grownBy w' (some b) := by
  have e1 : (k == 1) = false := by simpa using h1
  have e2 : (k == 2) = false := by simpa using h2
  have e3 : (k == 3) = false := by simpa using h3
  have HF : Hid (saysF ((k, N) :: l) x s = timesF odd (saysF l) x ((min N 100).toNat - 1) (saysF l x s)) := Lib.hid (by rw [saysF_cons]; simp [oneF, h1, h2, h3])
  obtain ⟨M, hM⟩ : ∃ M : Nat, (min N 100).toNat - 1 = M := ⟨_, rfl⟩
  rw [HF.out, hM]
  have HM := Lib.hid hM
  have q1 : (w.alloc (.cells #[.int .i64 k, .int .i64 N] 86)).cell? ⟨w.heap.size, 1, none⟩ = some (.int .i64 N) := HN1.out.cell 1
  clear HF hM h1 h2 h3
  go_enter Tryz.func25, Tryz.ntmps25
  go_upto_region 14 with (fail)
  generalize w.alloc _ = W1 at HG1 HT1 HB1 HN1 q1 ⊢
  go_cut [9] (fun s9 wx => s9 = .int .i64 ((M : Int) + 1) ∧ wx = W1)
  case first =>
    go_wp2_with fail
    all_goals
      go_meet
      exact ⟨by have := HM.out; exact congrArg _ (by omega), rfl⟩
  case rest =>
    obtain ⟨rfl, rfl⟩ := hcut
    have hM9 : M ≤ 99 := by have := HM.out; omega
    clear q1 HM
    go_wp2_with fail
    refine (IH.out _ s _ (by exact HT1.out) (by exact HB1.out)).mono ?_
    rintro e w2 ⟨rfl, g1, g2⟩
    have HR := Lib.hid (And.intro g1 g2)
    clear g1 g2
    go_wp2_with fail
    go_loopw [10, 11] (fun y i wr => ∃ (j : Nat) (r : Int × Int), j ≤ M ∧ i = .int .i64 ((j : Int) + 1) ∧ y = .int .i64 r.1 ∧ Hid (Blk wr b 50 #[.int .i64 r.2] ∧ wc.grownBy wr (some b) ∧ timesF odd (saysF l) x (M - j) r = timesF odd (saysF l) x M (saysF l x s))) (fun _ i _ => M + 1 - (intOf i).toNat)
    case atStart => exact ⟨0, saysF l x s, Nat.zero_le _, by go_num, rfl, Lib.hid ⟨HR.out.1, HR.out.2, rfl⟩⟩
    case round =>
      obtain ⟨j, r, hj, rfl, rfl, hh⟩ := hrel
      have HT3 := Lib.hid (HT1.out.grown hh.out.2.1 (HNB.out))
      by_cases hlt : j < M
      · rcases hf : odd r.1 with _ | _
        · have HF2 := Lib.hid hf
          unfold odd at hf
          go_wp2_with fail
          go_ret
          refine ⟨ret_int ?_, ?_, grown_trans HG1.out hh.out.2.1⟩
          · rw [← hh.out.2.2, timesF_stop odd _ x _ r HF2.out]
          · rw [← hh.out.2.2, timesF_stop odd _ x _ r HF2.out]; exact hh.out.1
        · have HF2 := Lib.hid hf
          unfold odd at hf
          go_wp2_with fail
          refine (IH.out _ r.2 _ (by exact HT3.out) (by exact hh.out.1)).mono ?_
          rintro e w3 ⟨rfl, g1, g2⟩
          have HR2 := Lib.hid (And.intro g1 (grown_trans hh.out.2.1 g2))
          clear g1 g2
          go_wp2_with fail
          go_roundw
          case rel =>
            refine ⟨j + 1, saysF l x r.2, hlt, by go_num, rfl, Lib.hid ⟨HR2.out.1, HR2.out.2, ?_⟩⟩
            rw [← hh.out.2.2, timesF_go odd _ x hlt r HF2.out]
          case measure => simp [intOf]; omega
      · obtain rfl : j = M := by omega
        go_wp2_with fail
        go_ret
        have e0 := hh.out.2.2
        rw [Nat.sub_self] at e0
        have e0 : r = timesF odd (saysF l) x j (saysF l x s) := e0
        refine ⟨ret_int (by rw [← e0]), ?_, grown_trans HG1.out hh.out.2.1⟩
        rw [← e0]; exact hh.out.1
set_option maxRecDepth 100000 in
set_option maxHeartbeats 4000000 in
theorem says_any (b : Nat) (l : List (Int × Int)) : ∀ (A : Option Addr) (n c : Nat) (x s : Int) (w : World), n ≤ c → n ≤ 1000 → On w A n l → (∀ ad, 0 < n → A = some ad → ad.block ≠ b) → Blk w b 50 #[.int .i64 s] →
    Calls Tryz.prog 25 #[.slice A n c, .int .i64 x, .pointer (some ⟨b, 0, none⟩)] w fun e w' => e = .returned (.int .i64 (saysF l x s).1) ∧ Blk w' b 50 #[.int .i64 (saysF l x s).2] ∧ w.grownBy w' (some b) := by
  induction l with
  | nil =>
    intro A n c x s w hc hn hl hb hs
    obtain rfl : n = 0 := by have := hl.1; simpa using this.symm
    have HA := Lib.hid (ask_any b x s w hs)
    clear hl hb hs
    go_enter Tryz.func25, Tryz.ntmps25
    go_wp2_with fail
    refine HA.out.mono ?_
    rintro e w1 ⟨rfl, h1, h2⟩
    have HR := Lib.hid (And.intro h1 h2)
    clear h1 h2
    go_wp2
    go_ret
    exact ⟨rfl, HR.out.1, HR.out.2⟩
  | cons o l ih =>
    intro A n c x s w hc hn hl hb hs
    obtain ⟨k, N⟩ := o
    have hn1 : 1 ≤ n := by have := hl.1; simp at this; omega
    obtain ⟨ad, rfl, c0, c1⟩ := hl.head
    have HT := Lib.hid (hl.tail hc)
    have HS := Lib.hid (hl.below (w' := w.alloc (.cells #[.int .i64 k, .int .i64 N] 86)) ((Below.refl _ _).alloc (Nat.le_refl _) _))
    have hsl := run_tail (some ad) n c hn1 hc
    obtain ⟨A2, hA2⟩ : ∃ A2, (if c = 1 then some ad else (some ad).map fun x => x.add 2) = A2 := ⟨_, rfl⟩
    rw [hA2] at hsl
    have HT2 : Hid (On w A2 (n - 1) l) := Lib.hid (hA2 ▸ HT.out)
    have HB2 : Hid (∀ ad, 0 < n - 1 → A2 = some ad → ad.block ≠ b) := Lib.hid (by
      intro ad2 h0 e
      rw [← hA2, if_neg (by omega)] at e
      simp at e
      rw [← e, add_block]
      exact hb ad (by omega) rfl)
    have IH : Hid (∀ (x s : Int) (W : World), On W A2 (n - 1) l → Blk W b 50 #[.int .i64 s] → Calls Tryz.prog 25 #[.slice A2 (n - 1) (c - 1), .int .i64 x, .pointer (some ⟨b, 0, none⟩)] W fun e w' => e = .returned (.int .i64 (saysF l x s).1) ∧ Blk w' b 50 #[.int .i64 (saysF l x s).2] ∧ W.grownBy w' (some b)) :=
      Lib.hid fun x s W h1 h2 => ih A2 (n - 1) (c - 1) x s W (by omega) (by omega) h1 HB2.out h2
    have HBs := Lib.hid hs
    have hbw := hs.lt
    have HNB := HB2
    clear hA2 HT HS hl hb hs ih
    have hbel : Below w.heap.size w (w.alloc (.cells #[.int .i64 k, .int .i64 N] 86)) := (Below.refl _ _).alloc (Nat.le_refl _) _
    have HG1 := Lib.hid (grown_of_below hbel (some b))
    have HT1 := Lib.hid (HT2.out.below hbel)
    have HB1 := Lib.hid (HBs.out.below hbel HBs.out.lt)
    have HN1 := Lib.hid (Blk.new w 86 #[.int .i64 k, .int .i64 N])
    have hne : w.heap.size ≠ b := by omega
    clear hbel HT2 HBs hbw
    by_cases h1 : k = 1
    · subst h1
      go_enter Tryz.func25, Tryz.ntmps25
      go_wp2_with fail
      have q1 : (w.alloc (.cells #[.int .i64 1, .int .i64 N] 86)).cell? ⟨w.heap.size, 1, none⟩ = some (.int .i64 N) := HN1.out.cell 1
      generalize w.alloc _ = W1 at HG1 HT1 HB1 HN1 q1 ⊢
      go_region_with ((refine (IH.out _ s _ (by exact HT1.out) (by exact HB1.out)).mono ?_; rintro e w2 ⟨rfl, h1, h2⟩; have HR := Lib.hid (And.intro h1 (grown_trans HG1.out (a := w) (b := W1) ⟨h2.os, h2.tape, h2.output, h2.size, h2.block⟩)); clear h1 h2))
      all_goals
        go_wp2
        go_ret
        exact ⟨rfl, HR.out.1, HR.out.2⟩
    have e1 : (k == 1) = false := by simpa using h1
    by_cases h2 : k = 2
    · subst h2
      go_enter Tryz.func25, Tryz.ntmps25
      go_wp2_with fail
      have q1 : (w.alloc (.cells #[.int .i64 2, .int .i64 N] 86)).cell? ⟨w.heap.size, 1, none⟩ = some (.int .i64 N) := HN1.out.cell 1
      generalize w.alloc _ = W1 at HG1 HT1 HB1 HN1 q1 ⊢
      go_region_with ((refine (IH.out _ s _ (by exact HT1.out) (by exact HB1.out)).mono ?_; rintro e w2 ⟨rfl, h1, h2⟩; have h3 : W1.grownBy w2 (some b) := ⟨h2.os, h2.tape, h2.output, h2.size, h2.block⟩; have HR := Lib.hid (And.intro h1 (grown_trans HG1.out h3)); have q2 : w2.cell? ⟨w.heap.size, 1, none⟩ = some (.int .i64 N) := (HN1.out.grown h3 (fun e => hne (Option.some.inj e))).cell 1; clear h1 h2 h3))
      all_goals
        go_wp2
        go_ret
        exact ⟨ret_int (by rw [saysF_cons]; show xr (IntKind.i64.wrap ((saysF l x s).1 * 3)) N = xr (wrap64 ((saysF l x s).1 * 3)) N; rw [IntWalk.i64_left]), HR.out.1, HR.out.2⟩
    have e2 : (k == 2) = false := by simpa using h2
    by_cases h3 : k = 3
    · subst h3
      rcases hx : odd x with _ | _
      all_goals
        have HX := Lib.hid hx
        unfold odd at hx
        go_enter Tryz.func25, Tryz.ntmps25
        go_wp2_with fail
        have q1 : (w.alloc (.cells #[.int .i64 3, .int .i64 N] 86)).cell? ⟨w.heap.size, 1, none⟩ = some (.int .i64 N) := HN1.out.cell 1
        generalize w.alloc _ = W1 at HG1 HT1 HB1 HN1 q1 ⊢
        refine (IH.out _ s _ (by exact HT1.out) (by exact HB1.out)).mono ?_
        rintro e w2 ⟨rfl, h1, h2⟩
        have HR := Lib.hid (And.intro h1 (grown_trans HG1.out h2))
        have q2 : w2.cell? ⟨w.heap.size, 1, none⟩ = some (.int .i64 N) := (HN1.out.grown h2 (fun e => hne (Option.some.inj e))).cell 1
        clear h1 h2 q1
        go_wp2
        go_ret
        refine ⟨ret_int ?_, ?_, HR.out.2⟩
        · rw [saysF_cons]; simp [oneF, HX.out]
        · rw [saysF_cons]; simpa [oneF, HX.out] using HR.out.1
    · exact says_times b l ad n c A2 k N x s w h1 h2 h3 hn1 hc hn hsl c0 c1 HG1 HT1 HB1 HN1 hne HNB IH
end Go.Proofs.YthokfopeddaiiaaGreatDoor
