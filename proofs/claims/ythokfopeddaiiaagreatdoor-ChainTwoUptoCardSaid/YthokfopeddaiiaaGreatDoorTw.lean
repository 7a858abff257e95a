/-
  ChainTwo: rules in two lists, one list around the other, do what both lists do, but for the text.
-/
import Derived.Test.YthokfopeddaiiaaGreatDoorTh
import Derived.Test.YthokfopeddaiiaaGreatDoorSam
import Derived.Test.YthokfopeddaiiaaGreatDoorFst
import Derived.Deep.DeepCutAuto
import Derived.BigQuiet
namespace Go.Proofs.YthokfopeddaiiaaGreatDoor
open Go.RowKit Go.Own Go.Own.Fn Go.Shelf
attribute [local go_sem] Oper.semAt_some
def Szh (l : List HdrV) : Prop := ∀ h ∈ l, h.name.size ≤ 1000000000 ∧ h.value.size ≤ 1000000000
def TwoPost (w : World) (e : Ending) (w' : World) : Prop := e = .returned (.bool true) ∧ Below w.heap.size w w'
theorem at_err (p : Addr) (W : World) : (binOp .neq 30 (.iface 74 (.pointer (some p))) .nilIface).run Tryz.prog W = .ok (.bool true) W := by kernel_rfl
set_option maxHeartbeats 16000000 in
set_option maxRecDepth 100000 in
theorem chainTwo_any (Aa : Option Addr) (na ca : Nat) (a : List RuleV) (Ab : Option Addr) (nb cb : Nat) (b : List RuleV) (x : CallV) (A1 : Option Addr) (m1 c1 : Nat) (A2 : Option Addr) (m2 c2 : Nat) (code : Int) (w : World) (he : EnvC w)
    (hn : na ≤ 100000000 ∧ nb ≤ 100000000 ∧ m1 ≤ 100000000 ∧ m2 ≤ 100000000) (ha : Rs w Aa na a) (hb : Rs w Ab nb b) (hh : Hr w A1 m1 x.hs) (hd : Rd w w.heap.size A2 m2 x.body)
    (hza : ∀ r ∈ a, SzR r) (hzb : ∀ r ∈ b, SzR r) (hzh : Szh x.hs) (hp : x.path.size ≤ 1000000000) :
    Calls Tryz.prog 3 #[.slice Aa na ca, .slice Ab nb cb, .agg #[.string x.path, .slice A1 m1 c1, .slice A2 m2 c2], .int .i64 code] w (TwoPost w) := by
  have HE := Lib.hid he
  have HA := Lib.hid ha
  have HBl := Lib.hid hb
  have HH := Lib.hid hh
  have HD := Lib.hid hd
  have HZ := Lib.hid (And.intro hza (And.intro hzb (And.intro hzh hp)))
  have HN := Lib.hid hn
  obtain ⟨xp, hxp⟩ : ∃ p, x.path = p := ⟨_, rfl⟩
  rw [hxp]
  have HXp := Lib.hid hxp
  clear he ha hb hh hd hza hzb hzh hp hn hxp
  go_enter Tryz.func3, Tryz.ntmps3
  go_upto_region 1 with fail
  have s1 : (w.alloc (.cells #[.slice Ab nb cb] 22)).heap.size = w.heap.size + 1 := by simp
  have s2 : ((w.alloc (.cells #[.slice Ab nb cb] 22)).alloc (.cells #[.string xp, .slice A1 m1 c1, .slice A2 m2 c2] 26)).heap.size = w.heap.size + 2 := by simp
  have hb0 : Below w.heap.size w (((w.alloc (.cells #[.slice Ab nb cb] 22)).alloc (.cells #[.string xp, .slice A1 m1 c1, .slice A2 m2 c2] 26)).alloc (.cells #[.int .i64 code] 3)) := (((Below.refl _ _).alloc (Nat.le_refl _) _).alloc (by rw [s1]; omega) _).alloc (by rw [s2]; omega) _
  have k1 : Blk (((w.alloc (.cells #[.slice Ab nb cb] 22)).alloc (.cells #[.string xp, .slice A1 m1 c1, .slice A2 m2 c2] 26)).alloc (.cells #[.int .i64 code] 3)) w.heap.size 22 #[.slice Ab nb cb] := ((Blk.new w 22 #[.slice Ab nb cb]).alloc _).alloc _
  have k2 := (Blk.new (w.alloc (.cells #[.slice Ab nb cb] 22)) 26 #[.string xp, .slice A1 m1 c1, .slice A2 m2 c2]).alloc (.cells #[.int .i64 code] 3)
  rw [s1] at k2
  have k3 := Blk.new ((w.alloc (.cells #[.slice Ab nb cb] 22)).alloc (.cells #[.string xp, .slice A1 m1 c1, .slice A2 m2 c2] 26)) 3 #[.int .i64 code]
  rw [s2] at k3
  have HB0 := Lib.hid hb0
  have HK1 := Lib.hid k1
  have HK2 := Lib.hid k2
  have HK3 := Lib.hid k3
  have hs0 : w.heap.size + 2 < (((w.alloc (.cells #[.slice Ab nb cb] 22)).alloc (.cells #[.string xp, .slice A1 m1 c1, .slice A2 m2 c2] 26)).alloc (.cells #[.int .i64 code] 3)).heap.size := k3.lt
  have HS0 := Lib.hid hs0
  clear s1 s2 hb0 k1 k2 k3 hs0
  generalize ((w.alloc (.cells #[.slice Ab nb cb] 22)).alloc (.cells #[.string xp, .slice A1 m1 c1, .slice A2 m2 c2] 26)).alloc (.cells #[.int .i64 code] 3) = w0 at HB0 HK1 HK2 HK3 HS0 ⊢
  have HKf := Lib.hid (fun W (hW : Below w0.heap.size w0 W) => (show W.cell? ⟨w.heap.size, 0, none⟩ = some (.slice Ab nb cb) ∧ W.cell? ⟨w.heap.size + 1, 0, none⟩ = some (.string xp) ∧ W.cell? ⟨w.heap.size + 1, 1, none⟩ = some (.slice A1 m1 c1) ∧ W.cell? ⟨w.heap.size + 1, 2, none⟩ = some (.slice A2 m2 c2) from
    ⟨(HK1.out.below hW HK1.out.lt).cell 0, (HK2.out.below hW HK2.out.lt).cell 0, (HK2.out.below hW HK2.out.lt).cell 1, (HK2.out.below hW HK2.out.lt).cell 2⟩))
  have HP := Lib.hid (fun W (hW : Below w0.heap.size w0 W) => (show Below w.heap.size w W from HB0.out.trans (hW.mono HB0.out.size)))
  have hq := at_err
  go_wp2_with fail
  refine (first_any _ (HE.out.below HB0.out)).mono ?_
  rintro e w1 ⟨rfl, g1⟩
  have HB1 := Lib.hid g1
  clear g1
  obtain ⟨k0, k1, k2, k3⟩ := HKf.out w1 HB1.out
  go_wp2_with fail
  refine (light_any Aa na ca a xp A1 m1 c1 x.hs A2 m2 c2 w1 ⟨HN.out.1, HN.out.2.2.1, HN.out.2.2.2⟩ (HA.out.below (HP.out w1 HB1.out)) (HH.out.below (HP.out w1 HB1.out)) ⟨HZ.out.1, HZ.out.2.2.1, by rw [← HXp.out]; exact HZ.out.2.2.2⟩).mono ?_
  rintro e w2 ⟨lb, rfl, hlb, g2⟩
  have HB2 := Lib.hid (HB1.out.trans (g2.mono HB1.out.size))
  have HLa := Lib.hid hlb
  clear g2 HB1 k0 k1 k2 k3 hlb
  obtain ⟨k0, k1, k2, k3⟩ := HKf.out w2 HB2.out
  rcases lb with _ | _
  · go_wp2
    go_ret
    exact ⟨rfl, HP.out w2 HB2.out⟩
  go_wp2_with fail
  refine (light_any Ab nb cb b xp A1 m1 c1 x.hs A2 m2 c2 w2 ⟨HN.out.2.1, HN.out.2.2.1, HN.out.2.2.2⟩ (HBl.out.below (HP.out w2 HB2.out)) (HH.out.below (HP.out w2 HB2.out)) ⟨HZ.out.2.1, HZ.out.2.2.1, by rw [← HXp.out]; exact HZ.out.2.2.2⟩).mono ?_
  rintro e w3 ⟨lb, rfl, hlb, g3⟩
  have HB3 := Lib.hid (HB2.out.trans (g3.mono HB2.out.size))
  have HLb := Lib.hid hlb
  clear g3 HB2 k0 k1 k2 k3 hlb
  obtain ⟨k0, k1, k2, k3⟩ := HKf.out w3 HB3.out
  rcases lb with _ | _
  · go_wp2
    go_ret
    exact ⟨rfl, HP.out w3 HB3.out⟩
  have HL := Lib.hid (And.intro (HLa.out (by trivial)).1 (And.intro (HLb.out (by trivial)).1 (HLa.out (by trivial)).2))
  clear HLa HLb
  go_wp2_with fail
  refine (valid_any Aa na ca a w3 (by have := HL.out.1; omega) (HE.out.below (HP.out w3 HB3.out)) (HA.out.below (HP.out w3 HB3.out)) HZ.out.1).mono ?_
  rintro e w4 ⟨g4, hv⟩
  have HB4 := Lib.hid (HB3.out.trans (g4.mono HB3.out.size))
  clear g4 HB3 k0 k1 k2 k3
  obtain ⟨k0, k1, k2, k3⟩ := HKf.out w4 HB4.out
  rcases hv with ⟨hva, rfl⟩ | ⟨_, p, rfl⟩
  rotate_left
  · go_wp2
    go_ret
    exact ⟨rfl, HP.out w4 HB4.out⟩
  have HVa := Lib.hid hva
  clear hva
  go_wp2_with fail
  refine (valid_any Ab nb cb b w4 (by have := HL.out.2.1; omega) (HE.out.below (HP.out w4 HB4.out)) (HBl.out.below (HP.out w4 HB4.out)) HZ.out.2.1).mono ?_
  rintro e w5 ⟨g5, hv⟩
  have HB5 := Lib.hid (HB4.out.trans (g5.mono HB4.out.size))
  clear g5 HB4 k0 k1 k2 k3
  obtain ⟨k0, k1, k2, k3⟩ := HKf.out w5 HB5.out
  rcases hv with ⟨hvb, rfl⟩ | ⟨_, p, rfl⟩
  rotate_left
  · go_wp2
    go_ret
    exact ⟨rfl, HP.out w5 HB5.out⟩
  have HVb := Lib.hid hvb
  clear hvb hq
  go_wp2_with fail
  go_loopw [10] (fun i wr => ∃ k : Nat, k ≤ m1 ∧ i = .int .i64 (k : Int) ∧ Hid (Below w0.heap.size w0 wr)) (fun i _ => m1 - (intOf i).toNat)
  case atStart => exact ⟨0, Nat.zero_le _, rfl, HB5⟩
  case round =>
    obtain ⟨k, hk, rfl, hh⟩ := hrel
    have m40 := HL.out.2.2
    have HBr := Lib.hid hh.out
    clear k0 k1 k2 k3
    obtain ⟨k0, k1, k2, k3⟩ := HKf.out wr HBr.out
    by_cases hlt : k < m1
    · obtain ⟨ad, xh, rfl, hx, a0, a1, a2⟩ := (HH.out.below (HP.out wr HBr.out)).at2 hlt
      obtain ⟨z1, z2⟩ := HZ.out.2.2.1 xh (List.mem_of_getElem? hx)
      obtain ⟨mb, hmb⟩ := meta_det xh.name xh.value z1 z2
      have HMb := Lib.hid (fun W (he : EnvC W) => hmb W he)
      have HNb := Lib.hid (fun W (he : EnvC W) => name_det xh.name z1 W he)
      obtain ⟨nb', hnb'⟩ : ∃ b', Go.Own.Head.nameB xh.name.data.toList = b' := ⟨_, rfl⟩
      rw [hnb'] at HNb
      have HHk := Lib.hid (fun W (hW : Below w0.heap.size w0 W) => (show W.cell? ⟨w.heap.size + 1, 1, none⟩ = some (.slice (some ad) m1 c1) ∧ W.cell? (ad.add (k * 3)) = some (.string xh.name) ∧ W.cell? ⟨(ad.add (k * 3)).block, (ad.add (k * 3)).off + 1, none⟩ = some (.string xh.value) from by
        obtain ⟨ad', xh', e1, e2, b0, b1, _⟩ := (HH.out.below (HP.out W hW)).at2 hlt
        obtain rfl := Option.some.inj e1
        obtain rfl : xh = xh' := Option.some.inj (hx.symm.trans e2)
        exact ⟨(HKf.out W hW).2.2.1, b0, b1⟩))
      obtain ⟨xn, xv, xb⟩ := xh
      simp only at a0 a1 HMb HNb HHk
      have i0 : (0 : Int) ≤ (k : Int) := by omega
      have i1 : (k : Int) < (m1 : Int) := by omega
      clear hx z1 z2 hmb hnb' a2
      go_upto_region 7 with fail
      rcases mb with _ | _
      · refine wp_region_noPanic ?_
        refine wp_region_held_drew (S := (fun w' => w'.cell? ⟨w.heap.size + 1, 1, none⟩ = some (.slice (some ad) m1 c1) ∧ w'.cell? (ad.add (k * 3)) = some (.string xn) ∧ w'.cell? ⟨(ad.add (k * 3)).block, (ad.add (k * 3)).off + 1, none⟩ = some (.string xv))) (by kernel_rfl) (HHk.out wr HBr.out) (fun hHeld => ?_)
        refine wpAnyH_take (i := 0) (oi := { dst := some 51, op := Op.fieldAddr 26 (Operand.tmp 6) 1, type := 0, pos := "law.go:268", after := #[], guard := none }) (v := ?_) rfl (by kernel_rfl) (by kernel_rfl) (by kernel_rfl) (fun _ _ _ h => h) (Or.inl ⟨by rfl, ?_⟩) hHeld ?_
        rotate_left
        · intro w hSw; (try dsimp only at hSw); (try go_split_ands); go_simp; (first | done | with_reducible rfl)
        (try simp only [Act.put, List.setIfInBounds_toArray, List.set_cons_zero, List.set_cons_succ])
        refine wpAnyH_take (i := 1) (oi := { dst := some 52, op := Op.load 23 (Operand.tmp 51), type := 23, pos := "law.go:268", after := #[{ on := 0, ground := Ground.data }], guard := none }) (v := ?_) rfl (by kernel_rfl) (by kernel_rfl) (by kernel_rfl) (fun _ _ _ h => h) (Or.inl ⟨by rfl, ?_⟩) hHeld ?_
        rotate_left
        · intro w hSw; (try dsimp only at hSw); (try go_split_ands); go_simp; (first | done | with_reducible rfl)
        (try simp only [Act.put, List.setIfInBounds_toArray, List.set_cons_zero, List.set_cons_succ])
        refine wpAnyH_take (i := 2) (oi := { dst := some 53, op := Op.move (Operand.tmp 10), type := 3, pos := "law.go:268", after := #[], guard := none }) (v := ?_) rfl (by kernel_rfl) (by kernel_rfl) (by kernel_rfl) (fun _ _ _ h => h) (Or.inl ⟨by rfl, ?_⟩) hHeld ?_
        rotate_left
        · intro w hSw; (try dsimp only at hSw); (try go_split_ands); go_simp; (first | done | with_reducible rfl)
        (try simp only [Act.put, List.setIfInBounds_toArray, List.set_cons_zero, List.set_cons_succ])
        refine wpAnyH_take (i := 3) (oi := { dst := some 54, op := Op.indexAddr 23 (Operand.tmp 52) (Operand.tmp 53), type := 0, pos := "law.go:268", after := #[{ on := 1, ground := Ground.data }, { on := 2, ground := Ground.data }], guard := none }) (v := ?_) rfl (by kernel_rfl) (by kernel_rfl) (by kernel_rfl) (fun _ _ _ h => h) (Or.inl ⟨by rfl, ?_⟩) hHeld ?_
        rotate_left
        · intro w hSw; (try dsimp only at hSw); (try go_split_ands); go_simp; (first | done | with_reducible rfl)
        (try simp only [Act.put, List.setIfInBounds_toArray, List.set_cons_zero, List.set_cons_succ])
        refine wpAnyH_take (i := 4) (oi := { dst := some 55, op := Op.fieldAddr 34 (Operand.tmp 54) 0, type := 0, pos := "law.go:268", after := #[{ on := 3, ground := Ground.data }], guard := none }) (v := ?_) rfl (by kernel_rfl) (by kernel_rfl) (by kernel_rfl) (fun _ _ _ h => h) (Or.inl ⟨by rfl, ?_⟩) hHeld ?_
        rotate_left
        · intro w hSw; (try dsimp only at hSw); (try go_split_ands); go_simp; (first | done | with_reducible rfl)
        (try simp only [Act.put, List.setIfInBounds_toArray, List.set_cons_zero, List.set_cons_succ])
        refine wpAnyH_take (i := 5) (oi := { dst := some 56, op := Op.load 9 (Operand.tmp 55), type := 9, pos := "law.go:268", after := #[{ on := 4, ground := Ground.data }], guard := none }) (v := ?_) rfl (by kernel_rfl) (by kernel_rfl) (by kernel_rfl) (fun _ _ _ h => h) (Or.inl ⟨by rfl, ?_⟩) hHeld ?_
        rotate_left
        · intro w hSw; (try dsimp only at hSw); (try go_split_ands); go_simp; (first | done | with_reducible rfl)
        (try simp only [Act.put, List.setIfInBounds_toArray, List.set_cons_zero, List.set_cons_succ])
        refine wpAnyH_take (i := 6) (oi := { dst := some 57, op := Op.fieldAddr 26 (Operand.tmp 6) 1, type := 0, pos := "law.go:268", after := #[], guard := none }) (v := ?_) rfl (by kernel_rfl) (by kernel_rfl) (by kernel_rfl) (fun _ _ _ h => h) (Or.inl ⟨by rfl, ?_⟩) hHeld ?_
        rotate_left
        · intro w hSw; (try dsimp only at hSw); (try go_split_ands); go_simp; (first | done | with_reducible rfl)
        (try simp only [Act.put, List.setIfInBounds_toArray, List.set_cons_zero, List.set_cons_succ])
        refine wpAnyH_take (i := 7) (oi := { dst := some 58, op := Op.load 23 (Operand.tmp 57), type := 23, pos := "law.go:268", after := #[{ on := 6, ground := Ground.data }], guard := none }) (v := ?_) rfl (by kernel_rfl) (by kernel_rfl) (by kernel_rfl) (fun _ _ _ h => h) (Or.inl ⟨by rfl, ?_⟩) hHeld ?_
        rotate_left
        · intro w hSw; (try dsimp only at hSw); (try go_split_ands); go_simp; (first | done | with_reducible rfl)
        (try simp only [Act.put, List.setIfInBounds_toArray, List.set_cons_zero, List.set_cons_succ])
        refine wpAnyH_take (i := 8) (oi := { dst := some 59, op := Op.move (Operand.tmp 10), type := 3, pos := "law.go:268", after := #[], guard := none }) (v := ?_) rfl (by kernel_rfl) (by kernel_rfl) (by kernel_rfl) (fun _ _ _ h => h) (Or.inl ⟨by rfl, ?_⟩) hHeld ?_
        rotate_left
        · intro w hSw; (try dsimp only at hSw); (try go_split_ands); go_simp; (first | done | with_reducible rfl)
        (try simp only [Act.put, List.setIfInBounds_toArray, List.set_cons_zero, List.set_cons_succ])
        refine wpAnyH_take (i := 9) (oi := { dst := some 60, op := Op.indexAddr 23 (Operand.tmp 58) (Operand.tmp 59), type := 0, pos := "law.go:268", after := #[{ on := 7, ground := Ground.data }, { on := 8, ground := Ground.data }], guard := none }) (v := ?_) rfl (by kernel_rfl) (by kernel_rfl) (by kernel_rfl) (fun _ _ _ h => h) (Or.inl ⟨by rfl, ?_⟩) hHeld ?_
        rotate_left
        · intro w hSw; (try dsimp only at hSw); (try go_split_ands); go_simp; (first | done | with_reducible rfl)
        (try simp only [Act.put, List.setIfInBounds_toArray, List.set_cons_zero, List.set_cons_succ])
        refine wpAnyH_take (i := 10) (oi := { dst := some 61, op := Op.fieldAddr 34 (Operand.tmp 60) 1, type := 0, pos := "law.go:268", after := #[{ on := 9, ground := Ground.data }], guard := none }) (v := ?_) rfl (by kernel_rfl) (by kernel_rfl) (by kernel_rfl) (fun _ _ _ h => h) (Or.inl ⟨by rfl, ?_⟩) hHeld ?_
        rotate_left
        · intro w hSw; (try dsimp only at hSw); (try go_split_ands); go_simp; (first | done | with_reducible rfl)
        (try simp only [Act.put, List.setIfInBounds_toArray, List.set_cons_zero, List.set_cons_succ])
        refine wpAnyH_take (i := 11) (oi := { dst := some 62, op := Op.load 9 (Operand.tmp 61), type := 9, pos := "law.go:268", after := #[{ on := 10, ground := Ground.data }], guard := none }) (v := ?_) rfl (by kernel_rfl) (by kernel_rfl) (by kernel_rfl) (fun _ _ _ h => h) (Or.inl ⟨by rfl, ?_⟩) hHeld ?_
        rotate_left
        · intro w hSw; (try dsimp only at hSw); (try go_split_ands); go_simp; (first | done | with_reducible rfl)
        (try simp only [Act.put, List.setIfInBounds_toArray, List.set_cons_zero, List.set_cons_succ])
        refine wpAnyH_ready (rs := [12]) (by kernel_rfl) (by simp) ?_
        refine AllReadyH.cons (o := { dst := some 63, op := Op.call { callee := Callee.value (Operand.func 11), args := #[Operand.tmp 56, Operand.tmp 62], argTypes := #[9, 9] }, type := 4, pos := "law.go:268", after := #[{ on := 5, ground := Ground.data }, { on := 11, ground := Ground.data }], guard := none }) rfl (fun K hK => ?_) AllReadyH.nil
        go_simp
        go_at_call 11
        (with_reducible refine (HMb.out _ (HE.out.below (HP.out _ HBr.out.drew))).mono ?_)
        rintro e w7 ⟨rfl, g7⟩
        have HB7 := Lib.hid (HBr.out.drew.trans (g7.mono HBr.out.drew.size))
        clear g7
        refine hK.out _ _ (HHk.out _ HB7.out) (fun hHeld2 => ?_)
        clear hHeld
        have hHeld := hHeld2
        clear hHeld2 hK K
        (try simp only [Act.put, List.setIfInBounds_toArray, List.set_cons_zero, List.set_cons_succ])
        refine wpAnyH_take (i := 13) (oi := { dst := some 64, op := Op.unOp UnOp.not 4 (Operand.tmp 63), type := 4, pos := "law.go:268", after := #[{ on := 12, ground := Ground.data }], guard := none }) (v := ?_) rfl (by kernel_rfl) (by kernel_rfl) (by kernel_rfl) (fun _ _ _ h => h) (Or.inl ⟨by rfl, ?_⟩) hHeld ?_
        rotate_left
        · intro w hSw; (try dsimp only at hSw); (try go_split_ands); go_simp; (first | done | with_reducible rfl)
        (try simp only [Act.put, List.setIfInBounds_toArray, List.set_cons_zero, List.set_cons_succ])
        refine wpAnyH_take (i := 14) (oi := { dst := some 65, op := Op.move (Operand.tmp 64), type := 4, pos := "law.go:268", after := #[{ on := 13, ground := Ground.data }, { on := 12, ground := Ground.chain }], guard := none }) (v := ?_) rfl (by kernel_rfl) (by kernel_rfl) (by kernel_rfl) (fun _ _ _ h => h) (Or.inl ⟨by rfl, ?_⟩) hHeld ?_
        rotate_left
        · intro w hSw; (try dsimp only at hSw); (try go_split_ands); go_simp; (first | done | with_reducible rfl)
        (try simp only [Act.put, List.setIfInBounds_toArray, List.set_cons_zero, List.set_cons_succ])
        refine wpAnyH_take (i := 15) (oi := { dst := some 66, op := Op.fieldAddr 26 (Operand.tmp 6) 1, type := 0, pos := "law.go:268", after := #[{ on := 14, ground := Ground.guard }], guard := some (14, false) }) (v := undef) rfl (by kernel_rfl) (by kernel_rfl) (by kernel_rfl) (fun _ _ _ h => h) (Or.inr ⟨by rfl, rfl⟩) hHeld ?_
        (try simp only [Act.put, List.setIfInBounds_toArray, List.set_cons_zero, List.set_cons_succ])
        refine wpAnyH_take (i := 16) (oi := { dst := some 67, op := Op.load 23 (Operand.tmp 66), type := 23, pos := "law.go:268", after := #[{ on := 15, ground := Ground.data }, { on := 14, ground := Ground.guard }], guard := some (14, false) }) (v := undef) rfl (by kernel_rfl) (by kernel_rfl) (by kernel_rfl) (fun _ _ _ h => h) (Or.inr ⟨by rfl, rfl⟩) hHeld ?_
        (try simp only [Act.put, List.setIfInBounds_toArray, List.set_cons_zero, List.set_cons_succ])
        refine wpAnyH_take (i := 17) (oi := { dst := some 68, op := Op.move (Operand.tmp 10), type := 3, pos := "law.go:268", after := #[{ on := 14, ground := Ground.guard }], guard := some (14, false) }) (v := undef) rfl (by kernel_rfl) (by kernel_rfl) (by kernel_rfl) (fun _ _ _ h => h) (Or.inr ⟨by rfl, rfl⟩) hHeld ?_
        (try simp only [Act.put, List.setIfInBounds_toArray, List.set_cons_zero, List.set_cons_succ])
        refine wpAnyH_take (i := 18) (oi := { dst := some 69, op := Op.indexAddr 23 (Operand.tmp 67) (Operand.tmp 68), type := 0, pos := "law.go:268", after := #[{ on := 16, ground := Ground.data }, { on := 17, ground := Ground.data }, { on := 14, ground := Ground.guard }], guard := some (14, false) }) (v := undef) rfl (by kernel_rfl) (by kernel_rfl) (by kernel_rfl) (fun _ _ _ h => h) (Or.inr ⟨by rfl, rfl⟩) hHeld ?_
        (try simp only [Act.put, List.setIfInBounds_toArray, List.set_cons_zero, List.set_cons_succ])
        refine wpAnyH_take (i := 19) (oi := { dst := some 70, op := Op.fieldAddr 34 (Operand.tmp 69) 0, type := 0, pos := "law.go:268", after := #[{ on := 18, ground := Ground.data }, { on := 14, ground := Ground.guard }], guard := some (14, false) }) (v := undef) rfl (by kernel_rfl) (by kernel_rfl) (by kernel_rfl) (fun _ _ _ h => h) (Or.inr ⟨by rfl, rfl⟩) hHeld ?_
        (try simp only [Act.put, List.setIfInBounds_toArray, List.set_cons_zero, List.set_cons_succ])
        refine wpAnyH_take (i := 20) (oi := { dst := some 71, op := Op.load 9 (Operand.tmp 70), type := 9, pos := "law.go:268", after := #[{ on := 19, ground := Ground.data }, { on := 14, ground := Ground.guard }], guard := some (14, false) }) (v := undef) rfl (by kernel_rfl) (by kernel_rfl) (by kernel_rfl) (fun _ _ _ h => h) (Or.inr ⟨by rfl, rfl⟩) hHeld ?_
        (try simp only [Act.put, List.setIfInBounds_toArray, List.set_cons_zero, List.set_cons_succ])
        refine wpAnyH_take (i := 21) (oi := { dst := some 72, op := Op.call { callee := Callee.value (Operand.func 12), args := #[Operand.tmp 71], argTypes := #[9] }, type := 4, pos := "law.go:268", after := #[{ on := 20, ground := Ground.data }, { on := 14, ground := Ground.chain }, { on := 14, ground := Ground.guard }], guard := some (14, false) }) (v := undef) rfl (by kernel_rfl) (by kernel_rfl) (by kernel_rfl) (fun _ _ _ h => h) (Or.inr ⟨by rfl, rfl⟩) hHeld ?_
        (try simp only [Act.put, List.setIfInBounds_toArray, List.set_cons_zero, List.set_cons_succ])
        refine wpAnyH_take (i := 22) (oi := { dst := some 73, op := Op.unOp UnOp.not 4 (Operand.tmp 72), type := 4, pos := "law.go:268", after := #[{ on := 21, ground := Ground.data }, { on := 14, ground := Ground.guard }], guard := some (14, false) }) (v := undef) rfl (by kernel_rfl) (by kernel_rfl) (by kernel_rfl) (fun _ _ _ h => h) (Or.inr ⟨by rfl, rfl⟩) hHeld ?_
        (try simp only [Act.put, List.setIfInBounds_toArray, List.set_cons_zero, List.set_cons_succ])
        refine wpAnyH_take (i := 23) (oi := { dst := some 74, op := Op.pick (Operand.tmp 65) (Operand.const (Value.bool true)) (Operand.tmp 73), type := 4, pos := "law.go:268", after := #[{ on := 14, ground := Ground.data }, { on := 22, ground := Ground.data }], guard := none }) (v := ?_) rfl (by kernel_rfl) (by kernel_rfl) (by kernel_rfl) (fun _ _ _ h => h) (Or.inl ⟨by rfl, ?_⟩) hHeld ?_
        rotate_left
        · intro w hSw; (try dsimp only at hSw); (try go_split_ands); go_simp; (first | done | with_reducible rfl)
        (try simp only [Act.put, List.setIfInBounds_toArray, List.set_cons_zero, List.set_cons_succ])
        refine wpAnyH_done (by kernel_rfl) ?_ _
        refine NoPanic.normal ?_
        go_wp2
        go_ret
        exact ⟨rfl, HP.out _ HB7.out⟩
      · rcases nb' with _ | _
        · refine wp_region_noPanic ?_
          refine wp_region_held_drew (S := (fun w' => w'.cell? ⟨w.heap.size + 1, 1, none⟩ = some (.slice (some ad) m1 c1) ∧ w'.cell? (ad.add (k * 3)) = some (.string xn) ∧ w'.cell? ⟨(ad.add (k * 3)).block, (ad.add (k * 3)).off + 1, none⟩ = some (.string xv))) (by kernel_rfl) (HHk.out wr HBr.out) (fun hHeld => ?_)
          refine wpAnyH_take (i := 0) (oi := { dst := some 51, op := Op.fieldAddr 26 (Operand.tmp 6) 1, type := 0, pos := "law.go:268", after := #[], guard := none }) (v := ?_) rfl (by kernel_rfl) (by kernel_rfl) (by kernel_rfl) (fun _ _ _ h => h) (Or.inl ⟨by rfl, ?_⟩) hHeld ?_
          rotate_left
          · intro w hSw; (try dsimp only at hSw); (try go_split_ands); go_simp; (first | done | with_reducible rfl)
          (try simp only [Act.put, List.setIfInBounds_toArray, List.set_cons_zero, List.set_cons_succ])
          refine wpAnyH_take (i := 1) (oi := { dst := some 52, op := Op.load 23 (Operand.tmp 51), type := 23, pos := "law.go:268", after := #[{ on := 0, ground := Ground.data }], guard := none }) (v := ?_) rfl (by kernel_rfl) (by kernel_rfl) (by kernel_rfl) (fun _ _ _ h => h) (Or.inl ⟨by rfl, ?_⟩) hHeld ?_
          rotate_left
          · intro w hSw; (try dsimp only at hSw); (try go_split_ands); go_simp; (first | done | with_reducible rfl)
          (try simp only [Act.put, List.setIfInBounds_toArray, List.set_cons_zero, List.set_cons_succ])
          refine wpAnyH_take (i := 2) (oi := { dst := some 53, op := Op.move (Operand.tmp 10), type := 3, pos := "law.go:268", after := #[], guard := none }) (v := ?_) rfl (by kernel_rfl) (by kernel_rfl) (by kernel_rfl) (fun _ _ _ h => h) (Or.inl ⟨by rfl, ?_⟩) hHeld ?_
          rotate_left
          · intro w hSw; (try dsimp only at hSw); (try go_split_ands); go_simp; (first | done | with_reducible rfl)
          (try simp only [Act.put, List.setIfInBounds_toArray, List.set_cons_zero, List.set_cons_succ])
          refine wpAnyH_take (i := 3) (oi := { dst := some 54, op := Op.indexAddr 23 (Operand.tmp 52) (Operand.tmp 53), type := 0, pos := "law.go:268", after := #[{ on := 1, ground := Ground.data }, { on := 2, ground := Ground.data }], guard := none }) (v := ?_) rfl (by kernel_rfl) (by kernel_rfl) (by kernel_rfl) (fun _ _ _ h => h) (Or.inl ⟨by rfl, ?_⟩) hHeld ?_
          rotate_left
          · intro w hSw; (try dsimp only at hSw); (try go_split_ands); go_simp; (first | done | with_reducible rfl)
          (try simp only [Act.put, List.setIfInBounds_toArray, List.set_cons_zero, List.set_cons_succ])
          refine wpAnyH_take (i := 4) (oi := { dst := some 55, op := Op.fieldAddr 34 (Operand.tmp 54) 0, type := 0, pos := "law.go:268", after := #[{ on := 3, ground := Ground.data }], guard := none }) (v := ?_) rfl (by kernel_rfl) (by kernel_rfl) (by kernel_rfl) (fun _ _ _ h => h) (Or.inl ⟨by rfl, ?_⟩) hHeld ?_
          rotate_left
          · intro w hSw; (try dsimp only at hSw); (try go_split_ands); go_simp; (first | done | with_reducible rfl)
          (try simp only [Act.put, List.setIfInBounds_toArray, List.set_cons_zero, List.set_cons_succ])
          refine wpAnyH_take (i := 5) (oi := { dst := some 56, op := Op.load 9 (Operand.tmp 55), type := 9, pos := "law.go:268", after := #[{ on := 4, ground := Ground.data }], guard := none }) (v := ?_) rfl (by kernel_rfl) (by kernel_rfl) (by kernel_rfl) (fun _ _ _ h => h) (Or.inl ⟨by rfl, ?_⟩) hHeld ?_
          rotate_left
          · intro w hSw; (try dsimp only at hSw); (try go_split_ands); go_simp; (first | done | with_reducible rfl)
          (try simp only [Act.put, List.setIfInBounds_toArray, List.set_cons_zero, List.set_cons_succ])
          refine wpAnyH_take (i := 6) (oi := { dst := some 57, op := Op.fieldAddr 26 (Operand.tmp 6) 1, type := 0, pos := "law.go:268", after := #[], guard := none }) (v := ?_) rfl (by kernel_rfl) (by kernel_rfl) (by kernel_rfl) (fun _ _ _ h => h) (Or.inl ⟨by rfl, ?_⟩) hHeld ?_
          rotate_left
          · intro w hSw; (try dsimp only at hSw); (try go_split_ands); go_simp; (first | done | with_reducible rfl)
          (try simp only [Act.put, List.setIfInBounds_toArray, List.set_cons_zero, List.set_cons_succ])
          refine wpAnyH_take (i := 7) (oi := { dst := some 58, op := Op.load 23 (Operand.tmp 57), type := 23, pos := "law.go:268", after := #[{ on := 6, ground := Ground.data }], guard := none }) (v := ?_) rfl (by kernel_rfl) (by kernel_rfl) (by kernel_rfl) (fun _ _ _ h => h) (Or.inl ⟨by rfl, ?_⟩) hHeld ?_
          rotate_left
          · intro w hSw; (try dsimp only at hSw); (try go_split_ands); go_simp; (first | done | with_reducible rfl)
          (try simp only [Act.put, List.setIfInBounds_toArray, List.set_cons_zero, List.set_cons_succ])
          refine wpAnyH_take (i := 8) (oi := { dst := some 59, op := Op.move (Operand.tmp 10), type := 3, pos := "law.go:268", after := #[], guard := none }) (v := ?_) rfl (by kernel_rfl) (by kernel_rfl) (by kernel_rfl) (fun _ _ _ h => h) (Or.inl ⟨by rfl, ?_⟩) hHeld ?_
          rotate_left
          · intro w hSw; (try dsimp only at hSw); (try go_split_ands); go_simp; (first | done | with_reducible rfl)
          (try simp only [Act.put, List.setIfInBounds_toArray, List.set_cons_zero, List.set_cons_succ])
          refine wpAnyH_take (i := 9) (oi := { dst := some 60, op := Op.indexAddr 23 (Operand.tmp 58) (Operand.tmp 59), type := 0, pos := "law.go:268", after := #[{ on := 7, ground := Ground.data }, { on := 8, ground := Ground.data }], guard := none }) (v := ?_) rfl (by kernel_rfl) (by kernel_rfl) (by kernel_rfl) (fun _ _ _ h => h) (Or.inl ⟨by rfl, ?_⟩) hHeld ?_
          rotate_left
          · intro w hSw; (try dsimp only at hSw); (try go_split_ands); go_simp; (first | done | with_reducible rfl)
          (try simp only [Act.put, List.setIfInBounds_toArray, List.set_cons_zero, List.set_cons_succ])
          refine wpAnyH_take (i := 10) (oi := { dst := some 61, op := Op.fieldAddr 34 (Operand.tmp 60) 1, type := 0, pos := "law.go:268", after := #[{ on := 9, ground := Ground.data }], guard := none }) (v := ?_) rfl (by kernel_rfl) (by kernel_rfl) (by kernel_rfl) (fun _ _ _ h => h) (Or.inl ⟨by rfl, ?_⟩) hHeld ?_
          rotate_left
          · intro w hSw; (try dsimp only at hSw); (try go_split_ands); go_simp; (first | done | with_reducible rfl)
          (try simp only [Act.put, List.setIfInBounds_toArray, List.set_cons_zero, List.set_cons_succ])
          refine wpAnyH_take (i := 11) (oi := { dst := some 62, op := Op.load 9 (Operand.tmp 61), type := 9, pos := "law.go:268", after := #[{ on := 10, ground := Ground.data }], guard := none }) (v := ?_) rfl (by kernel_rfl) (by kernel_rfl) (by kernel_rfl) (fun _ _ _ h => h) (Or.inl ⟨by rfl, ?_⟩) hHeld ?_
          rotate_left
          · intro w hSw; (try dsimp only at hSw); (try go_split_ands); go_simp; (first | done | with_reducible rfl)
          (try simp only [Act.put, List.setIfInBounds_toArray, List.set_cons_zero, List.set_cons_succ])
          refine wpAnyH_ready (rs := [12]) (by kernel_rfl) (by simp) ?_
          refine AllReadyH.cons (o := { dst := some 63, op := Op.call { callee := Callee.value (Operand.func 11), args := #[Operand.tmp 56, Operand.tmp 62], argTypes := #[9, 9] }, type := 4, pos := "law.go:268", after := #[{ on := 5, ground := Ground.data }, { on := 11, ground := Ground.data }], guard := none }) rfl (fun K hK => ?_) AllReadyH.nil
          go_simp
          go_at_call 11
          (with_reducible refine (HMb.out _ (HE.out.below (HP.out _ HBr.out.drew))).mono ?_)
          rintro e w7 ⟨rfl, g7⟩
          have HB7 := Lib.hid (HBr.out.drew.trans (g7.mono HBr.out.drew.size))
          clear g7
          refine hK.out _ _ (HHk.out _ HB7.out) (fun hHeld2 => ?_)
          clear hHeld
          have hHeld := hHeld2
          clear hHeld2 hK K
          (try simp only [Act.put, List.setIfInBounds_toArray, List.set_cons_zero, List.set_cons_succ])
          refine wpAnyH_take (i := 13) (oi := { dst := some 64, op := Op.unOp UnOp.not 4 (Operand.tmp 63), type := 4, pos := "law.go:268", after := #[{ on := 12, ground := Ground.data }], guard := none }) (v := ?_) rfl (by kernel_rfl) (by kernel_rfl) (by kernel_rfl) (fun _ _ _ h => h) (Or.inl ⟨by rfl, ?_⟩) hHeld ?_
          rotate_left
          · intro w hSw; (try dsimp only at hSw); (try go_split_ands); go_simp; (first | done | with_reducible rfl)
          (try simp only [Act.put, List.setIfInBounds_toArray, List.set_cons_zero, List.set_cons_succ])
          refine wpAnyH_take (i := 14) (oi := { dst := some 65, op := Op.move (Operand.tmp 64), type := 4, pos := "law.go:268", after := #[{ on := 13, ground := Ground.data }, { on := 12, ground := Ground.chain }], guard := none }) (v := ?_) rfl (by kernel_rfl) (by kernel_rfl) (by kernel_rfl) (fun _ _ _ h => h) (Or.inl ⟨by rfl, ?_⟩) hHeld ?_
          rotate_left
          · intro w hSw; (try dsimp only at hSw); (try go_split_ands); go_simp; (first | done | with_reducible rfl)
          (try simp only [Act.put, List.setIfInBounds_toArray, List.set_cons_zero, List.set_cons_succ])
          refine wpAnyH_take (i := 15) (oi := { dst := some 66, op := Op.fieldAddr 26 (Operand.tmp 6) 1, type := 0, pos := "law.go:268", after := #[{ on := 14, ground := Ground.guard }], guard := some (14, false) }) (v := ?_) rfl (by kernel_rfl) (by kernel_rfl) (by kernel_rfl) (fun _ _ _ h => h) (Or.inl ⟨by rfl, ?_⟩) hHeld ?_
          rotate_left
          · intro w hSw; (try dsimp only at hSw); (try go_split_ands); go_simp; (first | done | with_reducible rfl)
          (try simp only [Act.put, List.setIfInBounds_toArray, List.set_cons_zero, List.set_cons_succ])
          refine wpAnyH_take (i := 16) (oi := { dst := some 67, op := Op.load 23 (Operand.tmp 66), type := 23, pos := "law.go:268", after := #[{ on := 15, ground := Ground.data }, { on := 14, ground := Ground.guard }], guard := some (14, false) }) (v := ?_) rfl (by kernel_rfl) (by kernel_rfl) (by kernel_rfl) (fun _ _ _ h => h) (Or.inl ⟨by rfl, ?_⟩) hHeld ?_
          rotate_left
          · intro w hSw; (try dsimp only at hSw); (try go_split_ands); go_simp; (first | done | with_reducible rfl)
          (try simp only [Act.put, List.setIfInBounds_toArray, List.set_cons_zero, List.set_cons_succ])
          refine wpAnyH_take (i := 17) (oi := { dst := some 68, op := Op.move (Operand.tmp 10), type := 3, pos := "law.go:268", after := #[{ on := 14, ground := Ground.guard }], guard := some (14, false) }) (v := ?_) rfl (by kernel_rfl) (by kernel_rfl) (by kernel_rfl) (fun _ _ _ h => h) (Or.inl ⟨by rfl, ?_⟩) hHeld ?_
          rotate_left
          · intro w hSw; (try dsimp only at hSw); (try go_split_ands); go_simp; (first | done | with_reducible rfl)
          (try simp only [Act.put, List.setIfInBounds_toArray, List.set_cons_zero, List.set_cons_succ])
          refine wpAnyH_take (i := 18) (oi := { dst := some 69, op := Op.indexAddr 23 (Operand.tmp 67) (Operand.tmp 68), type := 0, pos := "law.go:268", after := #[{ on := 16, ground := Ground.data }, { on := 17, ground := Ground.data }, { on := 14, ground := Ground.guard }], guard := some (14, false) }) (v := ?_) rfl (by kernel_rfl) (by kernel_rfl) (by kernel_rfl) (fun _ _ _ h => h) (Or.inl ⟨by rfl, ?_⟩) hHeld ?_
          rotate_left
          · intro w hSw; (try dsimp only at hSw); (try go_split_ands); go_simp; (first | done | with_reducible rfl)
          (try simp only [Act.put, List.setIfInBounds_toArray, List.set_cons_zero, List.set_cons_succ])
          refine wpAnyH_take (i := 19) (oi := { dst := some 70, op := Op.fieldAddr 34 (Operand.tmp 69) 0, type := 0, pos := "law.go:268", after := #[{ on := 18, ground := Ground.data }, { on := 14, ground := Ground.guard }], guard := some (14, false) }) (v := ?_) rfl (by kernel_rfl) (by kernel_rfl) (by kernel_rfl) (fun _ _ _ h => h) (Or.inl ⟨by rfl, ?_⟩) hHeld ?_
          rotate_left
          · intro w hSw; (try dsimp only at hSw); (try go_split_ands); go_simp; (first | done | with_reducible rfl)
          (try simp only [Act.put, List.setIfInBounds_toArray, List.set_cons_zero, List.set_cons_succ])
          refine wpAnyH_take (i := 20) (oi := { dst := some 71, op := Op.load 9 (Operand.tmp 70), type := 9, pos := "law.go:268", after := #[{ on := 19, ground := Ground.data }, { on := 14, ground := Ground.guard }], guard := some (14, false) }) (v := ?_) rfl (by kernel_rfl) (by kernel_rfl) (by kernel_rfl) (fun _ _ _ h => h) (Or.inl ⟨by rfl, ?_⟩) hHeld ?_
          rotate_left
          · intro w hSw; (try dsimp only at hSw); (try go_split_ands); go_simp; (first | done | with_reducible rfl)
          (try simp only [Act.put, List.setIfInBounds_toArray, List.set_cons_zero, List.set_cons_succ])
          refine wpAnyH_ready (rs := [21]) (by kernel_rfl) (by simp) ?_
          refine AllReadyH.cons (o := { dst := some 72, op := Op.call { callee := Callee.value (Operand.func 12), args := #[Operand.tmp 71], argTypes := #[9] }, type := 4, pos := "law.go:268", after := #[{ on := 20, ground := Ground.data }, { on := 14, ground := Ground.chain }, { on := 14, ground := Ground.guard }], guard := some (14, false) }) rfl (fun K hK => ?_) AllReadyH.nil
          go_simp
          go_at_call 12
          (with_reducible refine (HNb.out _ (HE.out.below (HP.out _ HB7.out))).mono ?_)
          rintro e w8 ⟨rfl, g8⟩
          have HB8 := Lib.hid (HB7.out.trans (g8.mono HB7.out.size))
          clear g8
          refine hK.out _ _ (HHk.out _ HB8.out) (fun hHeld2 => ?_)
          clear hHeld
          have hHeld := hHeld2
          clear hHeld2 hK K
          (try simp only [Act.put, List.setIfInBounds_toArray, List.set_cons_zero, List.set_cons_succ])
          refine wpAnyH_take (i := 22) (oi := { dst := some 73, op := Op.unOp UnOp.not 4 (Operand.tmp 72), type := 4, pos := "law.go:268", after := #[{ on := 21, ground := Ground.data }, { on := 14, ground := Ground.guard }], guard := some (14, false) }) (v := ?_) rfl (by kernel_rfl) (by kernel_rfl) (by kernel_rfl) (fun _ _ _ h => h) (Or.inl ⟨by rfl, ?_⟩) hHeld ?_
          rotate_left
          · intro w hSw; (try dsimp only at hSw); (try go_split_ands); go_simp; (first | done | with_reducible rfl)
          (try simp only [Act.put, List.setIfInBounds_toArray, List.set_cons_zero, List.set_cons_succ])
          refine wpAnyH_take (i := 23) (oi := { dst := some 74, op := Op.pick (Operand.tmp 65) (Operand.const (Value.bool true)) (Operand.tmp 73), type := 4, pos := "law.go:268", after := #[{ on := 14, ground := Ground.data }, { on := 22, ground := Ground.data }], guard := none }) (v := ?_) rfl (by kernel_rfl) (by kernel_rfl) (by kernel_rfl) (fun _ _ _ h => h) (Or.inl ⟨by rfl, ?_⟩) hHeld ?_
          rotate_left
          · intro w hSw; (try dsimp only at hSw); (try go_split_ands); go_simp; (first | done | with_reducible rfl)
          (try simp only [Act.put, List.setIfInBounds_toArray, List.set_cons_zero, List.set_cons_succ])
          refine wpAnyH_done (by kernel_rfl) ?_ _
          refine NoPanic.normal ?_
          go_wp2
          go_ret
          exact ⟨rfl, HP.out _ HB8.out⟩
        · refine wp_region_noPanic ?_
          refine wp_region_held_drew (S := (fun w' => w'.cell? ⟨w.heap.size + 1, 1, none⟩ = some (.slice (some ad) m1 c1) ∧ w'.cell? (ad.add (k * 3)) = some (.string xn) ∧ w'.cell? ⟨(ad.add (k * 3)).block, (ad.add (k * 3)).off + 1, none⟩ = some (.string xv))) (by kernel_rfl) (HHk.out wr HBr.out) (fun hHeld => ?_)
          refine wpAnyH_take (i := 0) (oi := { dst := some 51, op := Op.fieldAddr 26 (Operand.tmp 6) 1, type := 0, pos := "law.go:268", after := #[], guard := none }) (v := ?_) rfl (by kernel_rfl) (by kernel_rfl) (by kernel_rfl) (fun _ _ _ h => h) (Or.inl ⟨by rfl, ?_⟩) hHeld ?_
          rotate_left
          · intro w hSw; (try dsimp only at hSw); (try go_split_ands); go_simp; (first | done | with_reducible rfl)
          (try simp only [Act.put, List.setIfInBounds_toArray, List.set_cons_zero, List.set_cons_succ])
          refine wpAnyH_take (i := 1) (oi := { dst := some 52, op := Op.load 23 (Operand.tmp 51), type := 23, pos := "law.go:268", after := #[{ on := 0, ground := Ground.data }], guard := none }) (v := ?_) rfl (by kernel_rfl) (by kernel_rfl) (by kernel_rfl) (fun _ _ _ h => h) (Or.inl ⟨by rfl, ?_⟩) hHeld ?_
          rotate_left
          · intro w hSw; (try dsimp only at hSw); (try go_split_ands); go_simp; (first | done | with_reducible rfl)
          (try simp only [Act.put, List.setIfInBounds_toArray, List.set_cons_zero, List.set_cons_succ])
          refine wpAnyH_take (i := 2) (oi := { dst := some 53, op := Op.move (Operand.tmp 10), type := 3, pos := "law.go:268", after := #[], guard := none }) (v := ?_) rfl (by kernel_rfl) (by kernel_rfl) (by kernel_rfl) (fun _ _ _ h => h) (Or.inl ⟨by rfl, ?_⟩) hHeld ?_
          rotate_left
          · intro w hSw; (try dsimp only at hSw); (try go_split_ands); go_simp; (first | done | with_reducible rfl)
          (try simp only [Act.put, List.setIfInBounds_toArray, List.set_cons_zero, List.set_cons_succ])
          refine wpAnyH_take (i := 3) (oi := { dst := some 54, op := Op.indexAddr 23 (Operand.tmp 52) (Operand.tmp 53), type := 0, pos := "law.go:268", after := #[{ on := 1, ground := Ground.data }, { on := 2, ground := Ground.data }], guard := none }) (v := ?_) rfl (by kernel_rfl) (by kernel_rfl) (by kernel_rfl) (fun _ _ _ h => h) (Or.inl ⟨by rfl, ?_⟩) hHeld ?_
          rotate_left
          · intro w hSw; (try dsimp only at hSw); (try go_split_ands); go_simp; (first | done | with_reducible rfl)
          (try simp only [Act.put, List.setIfInBounds_toArray, List.set_cons_zero, List.set_cons_succ])
          refine wpAnyH_take (i := 4) (oi := { dst := some 55, op := Op.fieldAddr 34 (Operand.tmp 54) 0, type := 0, pos := "law.go:268", after := #[{ on := 3, ground := Ground.data }], guard := none }) (v := ?_) rfl (by kernel_rfl) (by kernel_rfl) (by kernel_rfl) (fun _ _ _ h => h) (Or.inl ⟨by rfl, ?_⟩) hHeld ?_
          rotate_left
          · intro w hSw; (try dsimp only at hSw); (try go_split_ands); go_simp; (first | done | with_reducible rfl)
          (try simp only [Act.put, List.setIfInBounds_toArray, List.set_cons_zero, List.set_cons_succ])
          refine wpAnyH_take (i := 5) (oi := { dst := some 56, op := Op.load 9 (Operand.tmp 55), type := 9, pos := "law.go:268", after := #[{ on := 4, ground := Ground.data }], guard := none }) (v := ?_) rfl (by kernel_rfl) (by kernel_rfl) (by kernel_rfl) (fun _ _ _ h => h) (Or.inl ⟨by rfl, ?_⟩) hHeld ?_
          rotate_left
          · intro w hSw; (try dsimp only at hSw); (try go_split_ands); go_simp; (first | done | with_reducible rfl)
          (try simp only [Act.put, List.setIfInBounds_toArray, List.set_cons_zero, List.set_cons_succ])
          refine wpAnyH_take (i := 6) (oi := { dst := some 57, op := Op.fieldAddr 26 (Operand.tmp 6) 1, type := 0, pos := "law.go:268", after := #[], guard := none }) (v := ?_) rfl (by kernel_rfl) (by kernel_rfl) (by kernel_rfl) (fun _ _ _ h => h) (Or.inl ⟨by rfl, ?_⟩) hHeld ?_
          rotate_left
          · intro w hSw; (try dsimp only at hSw); (try go_split_ands); go_simp; (first | done | with_reducible rfl)
          (try simp only [Act.put, List.setIfInBounds_toArray, List.set_cons_zero, List.set_cons_succ])
          refine wpAnyH_take (i := 7) (oi := { dst := some 58, op := Op.load 23 (Operand.tmp 57), type := 23, pos := "law.go:268", after := #[{ on := 6, ground := Ground.data }], guard := none }) (v := ?_) rfl (by kernel_rfl) (by kernel_rfl) (by kernel_rfl) (fun _ _ _ h => h) (Or.inl ⟨by rfl, ?_⟩) hHeld ?_
          rotate_left
          · intro w hSw; (try dsimp only at hSw); (try go_split_ands); go_simp; (first | done | with_reducible rfl)
          (try simp only [Act.put, List.setIfInBounds_toArray, List.set_cons_zero, List.set_cons_succ])
          refine wpAnyH_take (i := 8) (oi := { dst := some 59, op := Op.move (Operand.tmp 10), type := 3, pos := "law.go:268", after := #[], guard := none }) (v := ?_) rfl (by kernel_rfl) (by kernel_rfl) (by kernel_rfl) (fun _ _ _ h => h) (Or.inl ⟨by rfl, ?_⟩) hHeld ?_
          rotate_left
          · intro w hSw; (try dsimp only at hSw); (try go_split_ands); go_simp; (first | done | with_reducible rfl)
          (try simp only [Act.put, List.setIfInBounds_toArray, List.set_cons_zero, List.set_cons_succ])
          refine wpAnyH_take (i := 9) (oi := { dst := some 60, op := Op.indexAddr 23 (Operand.tmp 58) (Operand.tmp 59), type := 0, pos := "law.go:268", after := #[{ on := 7, ground := Ground.data }, { on := 8, ground := Ground.data }], guard := none }) (v := ?_) rfl (by kernel_rfl) (by kernel_rfl) (by kernel_rfl) (fun _ _ _ h => h) (Or.inl ⟨by rfl, ?_⟩) hHeld ?_
          rotate_left
          · intro w hSw; (try dsimp only at hSw); (try go_split_ands); go_simp; (first | done | with_reducible rfl)
          (try simp only [Act.put, List.setIfInBounds_toArray, List.set_cons_zero, List.set_cons_succ])
          refine wpAnyH_take (i := 10) (oi := { dst := some 61, op := Op.fieldAddr 34 (Operand.tmp 60) 1, type := 0, pos := "law.go:268", after := #[{ on := 9, ground := Ground.data }], guard := none }) (v := ?_) rfl (by kernel_rfl) (by kernel_rfl) (by kernel_rfl) (fun _ _ _ h => h) (Or.inl ⟨by rfl, ?_⟩) hHeld ?_
          rotate_left
          · intro w hSw; (try dsimp only at hSw); (try go_split_ands); go_simp; (first | done | with_reducible rfl)
          (try simp only [Act.put, List.setIfInBounds_toArray, List.set_cons_zero, List.set_cons_succ])
          refine wpAnyH_take (i := 11) (oi := { dst := some 62, op := Op.load 9 (Operand.tmp 61), type := 9, pos := "law.go:268", after := #[{ on := 10, ground := Ground.data }], guard := none }) (v := ?_) rfl (by kernel_rfl) (by kernel_rfl) (by kernel_rfl) (fun _ _ _ h => h) (Or.inl ⟨by rfl, ?_⟩) hHeld ?_
          rotate_left
          · intro w hSw; (try dsimp only at hSw); (try go_split_ands); go_simp; (first | done | with_reducible rfl)
          (try simp only [Act.put, List.setIfInBounds_toArray, List.set_cons_zero, List.set_cons_succ])
          refine wpAnyH_ready (rs := [12]) (by kernel_rfl) (by simp) ?_
          refine AllReadyH.cons (o := { dst := some 63, op := Op.call { callee := Callee.value (Operand.func 11), args := #[Operand.tmp 56, Operand.tmp 62], argTypes := #[9, 9] }, type := 4, pos := "law.go:268", after := #[{ on := 5, ground := Ground.data }, { on := 11, ground := Ground.data }], guard := none }) rfl (fun K hK => ?_) AllReadyH.nil
          go_simp
          go_at_call 11
          (with_reducible refine (HMb.out _ (HE.out.below (HP.out _ HBr.out.drew))).mono ?_)
          rintro e w7 ⟨rfl, g7⟩
          have HB7 := Lib.hid (HBr.out.drew.trans (g7.mono HBr.out.drew.size))
          clear g7
          refine hK.out _ _ (HHk.out _ HB7.out) (fun hHeld2 => ?_)
          clear hHeld
          have hHeld := hHeld2
          clear hHeld2 hK K
          (try simp only [Act.put, List.setIfInBounds_toArray, List.set_cons_zero, List.set_cons_succ])
          refine wpAnyH_take (i := 13) (oi := { dst := some 64, op := Op.unOp UnOp.not 4 (Operand.tmp 63), type := 4, pos := "law.go:268", after := #[{ on := 12, ground := Ground.data }], guard := none }) (v := ?_) rfl (by kernel_rfl) (by kernel_rfl) (by kernel_rfl) (fun _ _ _ h => h) (Or.inl ⟨by rfl, ?_⟩) hHeld ?_
          rotate_left
          · intro w hSw; (try dsimp only at hSw); (try go_split_ands); go_simp; (first | done | with_reducible rfl)
          (try simp only [Act.put, List.setIfInBounds_toArray, List.set_cons_zero, List.set_cons_succ])
          refine wpAnyH_take (i := 14) (oi := { dst := some 65, op := Op.move (Operand.tmp 64), type := 4, pos := "law.go:268", after := #[{ on := 13, ground := Ground.data }, { on := 12, ground := Ground.chain }], guard := none }) (v := ?_) rfl (by kernel_rfl) (by kernel_rfl) (by kernel_rfl) (fun _ _ _ h => h) (Or.inl ⟨by rfl, ?_⟩) hHeld ?_
          rotate_left
          · intro w hSw; (try dsimp only at hSw); (try go_split_ands); go_simp; (first | done | with_reducible rfl)
          (try simp only [Act.put, List.setIfInBounds_toArray, List.set_cons_zero, List.set_cons_succ])
          refine wpAnyH_take (i := 15) (oi := { dst := some 66, op := Op.fieldAddr 26 (Operand.tmp 6) 1, type := 0, pos := "law.go:268", after := #[{ on := 14, ground := Ground.guard }], guard := some (14, false) }) (v := ?_) rfl (by kernel_rfl) (by kernel_rfl) (by kernel_rfl) (fun _ _ _ h => h) (Or.inl ⟨by rfl, ?_⟩) hHeld ?_
          rotate_left
          · intro w hSw; (try dsimp only at hSw); (try go_split_ands); go_simp; (first | done | with_reducible rfl)
          (try simp only [Act.put, List.setIfInBounds_toArray, List.set_cons_zero, List.set_cons_succ])
          refine wpAnyH_take (i := 16) (oi := { dst := some 67, op := Op.load 23 (Operand.tmp 66), type := 23, pos := "law.go:268", after := #[{ on := 15, ground := Ground.data }, { on := 14, ground := Ground.guard }], guard := some (14, false) }) (v := ?_) rfl (by kernel_rfl) (by kernel_rfl) (by kernel_rfl) (fun _ _ _ h => h) (Or.inl ⟨by rfl, ?_⟩) hHeld ?_
          rotate_left
          · intro w hSw; (try dsimp only at hSw); (try go_split_ands); go_simp; (first | done | with_reducible rfl)
          (try simp only [Act.put, List.setIfInBounds_toArray, List.set_cons_zero, List.set_cons_succ])
          refine wpAnyH_take (i := 17) (oi := { dst := some 68, op := Op.move (Operand.tmp 10), type := 3, pos := "law.go:268", after := #[{ on := 14, ground := Ground.guard }], guard := some (14, false) }) (v := ?_) rfl (by kernel_rfl) (by kernel_rfl) (by kernel_rfl) (fun _ _ _ h => h) (Or.inl ⟨by rfl, ?_⟩) hHeld ?_
          rotate_left
          · intro w hSw; (try dsimp only at hSw); (try go_split_ands); go_simp; (first | done | with_reducible rfl)
          (try simp only [Act.put, List.setIfInBounds_toArray, List.set_cons_zero, List.set_cons_succ])
          refine wpAnyH_take (i := 18) (oi := { dst := some 69, op := Op.indexAddr 23 (Operand.tmp 67) (Operand.tmp 68), type := 0, pos := "law.go:268", after := #[{ on := 16, ground := Ground.data }, { on := 17, ground := Ground.data }, { on := 14, ground := Ground.guard }], guard := some (14, false) }) (v := ?_) rfl (by kernel_rfl) (by kernel_rfl) (by kernel_rfl) (fun _ _ _ h => h) (Or.inl ⟨by rfl, ?_⟩) hHeld ?_
          rotate_left
          · intro w hSw; (try dsimp only at hSw); (try go_split_ands); go_simp; (first | done | with_reducible rfl)
          (try simp only [Act.put, List.setIfInBounds_toArray, List.set_cons_zero, List.set_cons_succ])
          refine wpAnyH_take (i := 19) (oi := { dst := some 70, op := Op.fieldAddr 34 (Operand.tmp 69) 0, type := 0, pos := "law.go:268", after := #[{ on := 18, ground := Ground.data }, { on := 14, ground := Ground.guard }], guard := some (14, false) }) (v := ?_) rfl (by kernel_rfl) (by kernel_rfl) (by kernel_rfl) (fun _ _ _ h => h) (Or.inl ⟨by rfl, ?_⟩) hHeld ?_
          rotate_left
          · intro w hSw; (try dsimp only at hSw); (try go_split_ands); go_simp; (first | done | with_reducible rfl)
          (try simp only [Act.put, List.setIfInBounds_toArray, List.set_cons_zero, List.set_cons_succ])
          refine wpAnyH_take (i := 20) (oi := { dst := some 71, op := Op.load 9 (Operand.tmp 70), type := 9, pos := "law.go:268", after := #[{ on := 19, ground := Ground.data }, { on := 14, ground := Ground.guard }], guard := some (14, false) }) (v := ?_) rfl (by kernel_rfl) (by kernel_rfl) (by kernel_rfl) (fun _ _ _ h => h) (Or.inl ⟨by rfl, ?_⟩) hHeld ?_
          rotate_left
          · intro w hSw; (try dsimp only at hSw); (try go_split_ands); go_simp; (first | done | with_reducible rfl)
          (try simp only [Act.put, List.setIfInBounds_toArray, List.set_cons_zero, List.set_cons_succ])
          refine wpAnyH_ready (rs := [21]) (by kernel_rfl) (by simp) ?_
          refine AllReadyH.cons (o := { dst := some 72, op := Op.call { callee := Callee.value (Operand.func 12), args := #[Operand.tmp 71], argTypes := #[9] }, type := 4, pos := "law.go:268", after := #[{ on := 20, ground := Ground.data }, { on := 14, ground := Ground.chain }, { on := 14, ground := Ground.guard }], guard := some (14, false) }) rfl (fun K hK => ?_) AllReadyH.nil
          go_simp
          go_at_call 12
          (with_reducible refine (HNb.out _ (HE.out.below (HP.out _ HB7.out))).mono ?_)
          rintro e w8 ⟨rfl, g8⟩
          have HB8 := Lib.hid (HB7.out.trans (g8.mono HB7.out.size))
          clear g8
          refine hK.out _ _ (HHk.out _ HB8.out) (fun hHeld2 => ?_)
          clear hHeld
          have hHeld := hHeld2
          clear hHeld2 hK K
          (try simp only [Act.put, List.setIfInBounds_toArray, List.set_cons_zero, List.set_cons_succ])
          refine wpAnyH_take (i := 22) (oi := { dst := some 73, op := Op.unOp UnOp.not 4 (Operand.tmp 72), type := 4, pos := "law.go:268", after := #[{ on := 21, ground := Ground.data }, { on := 14, ground := Ground.guard }], guard := some (14, false) }) (v := ?_) rfl (by kernel_rfl) (by kernel_rfl) (by kernel_rfl) (fun _ _ _ h => h) (Or.inl ⟨by rfl, ?_⟩) hHeld ?_
          rotate_left
          · intro w hSw; (try dsimp only at hSw); (try go_split_ands); go_simp; (first | done | with_reducible rfl)
          (try simp only [Act.put, List.setIfInBounds_toArray, List.set_cons_zero, List.set_cons_succ])
          refine wpAnyH_take (i := 23) (oi := { dst := some 74, op := Op.pick (Operand.tmp 65) (Operand.const (Value.bool true)) (Operand.tmp 73), type := 4, pos := "law.go:268", after := #[{ on := 14, ground := Ground.data }, { on := 22, ground := Ground.data }], guard := none }) (v := ?_) rfl (by kernel_rfl) (by kernel_rfl) (by kernel_rfl) (fun _ _ _ h => h) (Or.inl ⟨by rfl, ?_⟩) hHeld ?_
          rotate_left
          · intro w hSw; (try dsimp only at hSw); (try go_split_ands); go_simp; (first | done | with_reducible rfl)
          (try simp only [Act.put, List.setIfInBounds_toArray, List.set_cons_zero, List.set_cons_succ])
          refine wpAnyH_done (by kernel_rfl) ?_ _
          refine NoPanic.normal ?_
          go_wp2_with fail
          go_roundw
          case rel => exact ⟨k + 1, hlt, by go_num, HB8⟩
          case measure => simp [intOf]; omega
    · obtain rfl : k = m1 := by omega
      go_upto_region 12 with fail
      clear k0 k1 k2 k3
      have t1 : (wr.alloc (.cells #[.int .i64 0] 3)).heap.size = wr.heap.size + 1 := by simp
      have t2 : ((wr.alloc (.cells #[.int .i64 0] 3)).alloc (.cells #[.int .i64 0] 3)).heap.size = wr.heap.size + 2 := by simp
      have b6 : Below wr.heap.size wr (((wr.alloc (.cells #[.int .i64 0] 3)).alloc (.cells #[.int .i64 0] 3)).alloc (.cells #[.func (.func 13) #[] #[.pointer (some ⟨w.heap.size + 1 + 1, 0, none⟩)]] 40)) := (((Below.refl _ _).alloc (Nat.le_refl _) _).alloc (by rw [t1]; omega) _).alloc (by rw [t2]; omega) _
      have j1 := ((Blk.new wr 3 #[.int .i64 0]).alloc (.cells #[.int .i64 0] 3)).alloc (.cells #[.func (.func 13) #[] #[.pointer (some ⟨w.heap.size + 1 + 1, 0, none⟩)]] 40)
      have j2 := (Blk.new (wr.alloc (.cells #[.int .i64 0] 3)) 3 #[.int .i64 0]).alloc (.cells #[.func (.func 13) #[] #[.pointer (some ⟨w.heap.size + 1 + 1, 0, none⟩)]] 40)
      rw [t1] at j2
      have j3 := Blk.new ((wr.alloc (.cells #[.int .i64 0] 3)).alloc (.cells #[.int .i64 0] 3)) 40 #[.func (.func 13) #[] #[.pointer (some ⟨w.heap.size + 1 + 1, 0, none⟩)]]
      rw [t2] at j3
      have HJ1 := Lib.hid j1
      have HJ2 := Lib.hid j2
      have HJ3 := Lib.hid j3
      have HB6 := Lib.hid (HBr.out.trans (b6.mono HBr.out.size))
      clear t1 t2 b6 j1 j2 j3
      generalize ((wr.alloc (.cells #[.int .i64 0] 3)).alloc (.cells #[.int .i64 0] 3)).alloc (.cells #[.func (.func 13) #[] #[.pointer (some ⟨w.heap.size + 1 + 1, 0, none⟩)]] 40) = W6 at HJ1 HJ2 HJ3 HB6 ⊢
      have HSn := Lib.hid HBr.out.size
      generalize wr.heap.size = n0 at HJ1 HJ2 HJ3 HSn ⊢
      clear HBr hh hk hlt
      obtain ⟨k0, k1, k2, k3⟩ := HKf.out W6 HB6.out
      have HP6 := Lib.hid (HP.out W6 HB6.out)
      obtain ⟨ev, hev⟩ := HE.out.value
      obtain ⟨mv, hmv⟩ := HE.out.top
      have lt1 := World.block_lt_of_cell? w _ hev
      have lt2 := World.block_lt_of_cell? w _ hmv
      simp only at lt1 lt2
      have hgl : n0 ≠ 0 ∧ n0 ≠ 1 := by have := HSn.out; have := HS0.out; omega
      have hfa : ∀ r ∈ a, okR r = true ∧ SzR r := fun r hr => ⟨List.all_eq_true.1 HVa.out r hr, HZ.out.1 r hr⟩
      have hfb : ∀ r ∈ b, okR r = true ∧ SzR r := fun r hr => ⟨List.all_eq_true.1 HVb.out r hr, HZ.out.2.1 r hr⟩
      have hla : na ≤ 40 := HL.out.1
      have hlb : nb ≤ 40 := HL.out.2.1
      have hinn := inn_fnc n0 w.heap.size (n0 + 2) (w.heap.size + 2) code (0 + na) Ab nb cb b W6 (by omega) (by omega) (HE.out.below HP6.out) hgl (HK1.out.below HB6.out HK1.out.lt) HJ3.out (HK3.out.below HB6.out HK3.out.lt) (HBl.out.below HP6.out) (fun hn ad e => by have := HBl.out.lt hn ad e; have := HSn.out; have := HS0.out; omega) hfb (by have := HSn.out; have := HS0.out; omega)
      have CA := Lib.hid (apply_any (cntS n0) (cnt_keeps n0) 0 (fun i => i = n0) Aa A1 A2 na ca k c1 m2 c2 a x (innV w.heap.size (n0 + 2) n0) (innerF b (cntF code)) 0 W6 (by omega) (by omega) (fun i h => by subst h; exact HJ1.out.lt) (fun i h => by injection h with h; exact h.symm) (HE.out.below HP6.out) (HA.out.below HP6.out) hfa (HH.out.below HP6.out) ((HD.out.below HP6.out).more HP6.out.size) (by have := HL.out.2.2; have := HH.out.1; omega) (by have := HN.out.2.2.2; have := HD.out.1; omega) hinn HJ1.out)
      rw [HXp.out] at CA
      have HF := Lib.hid (And.intro hfa hfb)
      clear hinn hfa hfb hev hmv lt1 lt2 hgl
      go_wp2_with fail
      refine CA.out.mono ?_
      rintro e w7 ⟨yv, rfl, y1, y2, y3⟩
      obtain ⟨q, tx, A6, n6, c6, A8, n8, c8, rfl⟩ := (shaped_call 0).y y1
      have HY1 := Lib.hid y1
      have HY2 := Lib.hid y2
      have HG7 := Lib.hid y3
      have HB7 := Lib.hid (show Below w0.heap.size w0 w7 from HB6.out.grown y3 HB6.out.size (fun i e => by injection e with e; have := HSn.out; omega))
      clear CA y1 y2 y3 k0 k1 k2 k3
      go_upto_region 13 with fail
      have HPA := Lib.hid (Blk.new w7 39 #[.int .i64 q, .string tx, .slice A6 n6 c6, .slice A8 n8 c8])
      have b8 : Below w7.heap.size w7 (w7.alloc (.cells #[.int .i64 q, .string tx, .slice A6 n6 c6, .slice A8 n8 c8] 39)) := (Below.refl _ _).alloc (Nat.le_refl _) _
      have HB8 := Lib.hid (HB7.out.alloc HB7.out.size (.cells #[.int .i64 q, .string tx, .slice A6 n6 c6, .slice A8 n8 c8] 39))
      have HO8 := Lib.hid (show Blk (w7.alloc (.cells #[.int .i64 q, .string tx, .slice A6 n6 c6, .slice A8 n8 c8] 39)) n0 3 #[.int .i64 (wrapS (ruleGs xp 0 a) (innerF b (cntF code)) x 0).2] from Blk.below HY2.out b8 (Blk.lt HY2.out))
      have HT8 := Lib.hid ((HJ2.out.grown HG7.out (show some (n0 + 1) ≠ some n0 by simp)).alloc (.cells #[.int .i64 q, .string tx, .slice A6 n6 c6, .slice A8 n8 c8] 39))
      have HF8 := Lib.hid ((HJ3.out.grown HG7.out (show some (n0 + 2) ≠ some n0 by simp)).alloc (.cells #[.int .i64 q, .string tx, .slice A6 n6 c6, .slice A8 n8 c8] 39))
      have HY8 := Lib.hid (HY1.out.below b8)
      have hPn : n0 + 2 < w7.heap.size := (HJ3.out.grown HG7.out (show some (n0 + 2) ≠ some n0 by simp)).lt
      have HPn := Lib.hid hPn
      clear b8 hPn HY1 HY2 HG7 HB7 HJ1 HJ2 HJ3 HB6 HP6
      generalize w7.alloc (.cells #[.int .i64 q, .string tx, .slice A6 n6 c6, .slice A8 n8 c8] 39) = w8 at HPA HB8 HO8 HT8 HF8 HY8 ⊢
      generalize w7.heap.size = PA at HPA HPn ⊢
      have HP8 := Lib.hid (HP.out w8 HB8.out)
      have HK8 := Lib.hid (And.intro (HK1.out.below HB8.out HK1.out.lt) (And.intro (HK2.out.below HB8.out HK2.out.lt) (HK3.out.below HB8.out HK3.out.lt)))
      have n1ne : w.heap.size < n0 + 1 ∧ w.heap.size + 1 < n0 + 1 ∧ w.heap.size + 2 < n0 + 1 := by have := HSn.out; have := HS0.out; omega
      have HNe := Lib.hid n1ne
      have ht8 := HT8.out.lt
      have hf8 : n0 + 2 < w8.heap.size := HF8.out.lt
      have HSf := Lib.hid (fun W' (hW : Below w8.heap.size w8 W') => (show (fun w' => w'.cell? ⟨w.heap.size, 0, none⟩ = some (.slice Ab nb cb) ∧ w'.cell? ⟨w.heap.size + 1, 0, none⟩ = some (.string xp) ∧ w'.cell? ⟨w.heap.size + 1, 1, none⟩ = some (.slice A1 k c1) ∧ w'.cell? ⟨w.heap.size + 1, 2, none⟩ = some (.slice A2 m2 c2) ∧ w'.cell? ⟨n0 + 1 + 1, 0, none⟩ = some (.func (.func 13) #[] #[.pointer (some ⟨w.heap.size + 1 + 1, 0, none⟩)])) W' from
        ⟨(HK8.out.1.below hW HK8.out.1.lt).cell 0, (HK8.out.2.1.below hW HK8.out.2.1.lt).cell 0, (HK8.out.2.1.below hW HK8.out.2.1.lt).cell 1, (HK8.out.2.1.below hW HK8.out.2.1.lt).cell 2, (HF8.out.below hW HF8.out.lt).cell 0⟩))
      have HSg := Lib.hid (fun W' (hg : w8.grownBy W' (some (n0 + 1))) => (show (fun w' => w'.cell? ⟨w.heap.size, 0, none⟩ = some (.slice Ab nb cb) ∧ w'.cell? ⟨w.heap.size + 1, 0, none⟩ = some (.string xp) ∧ w'.cell? ⟨w.heap.size + 1, 1, none⟩ = some (.slice A1 k c1) ∧ w'.cell? ⟨w.heap.size + 1, 2, none⟩ = some (.slice A2 m2 c2) ∧ w'.cell? ⟨n0 + 1 + 1, 0, none⟩ = some (.func (.func 13) #[] #[.pointer (some ⟨w.heap.size + 1 + 1, 0, none⟩)])) W' from
        have c1 := HK8.out.1.grown hg (by have := HNe.out; simp; omega)
        have c2 := HK8.out.2.1.grown hg (by have := HNe.out; simp; omega)
        have c3 := HF8.out.grown hg (by simp)
        ⟨c1.cell 0, c2.cell 0, c2.cell 1, c2.cell 2, c3.cell 0⟩))
      have HSa := Lib.hid (fun W' (o : Obj) (h : (fun w' => w'.cell? ⟨w.heap.size, 0, none⟩ = some (.slice Ab nb cb) ∧ w'.cell? ⟨w.heap.size + 1, 0, none⟩ = some (.string xp) ∧ w'.cell? ⟨w.heap.size + 1, 1, none⟩ = some (.slice A1 k c1) ∧ w'.cell? ⟨w.heap.size + 1, 2, none⟩ = some (.slice A2 m2 c2) ∧ w'.cell? ⟨n0 + 1 + 1, 0, none⟩ = some (.func (.func 13) #[] #[.pointer (some ⟨w.heap.size + 1 + 1, 0, none⟩)])) W') => (show (fun w' => w'.cell? ⟨w.heap.size, 0, none⟩ = some (.slice Ab nb cb) ∧ w'.cell? ⟨w.heap.size + 1, 0, none⟩ = some (.string xp) ∧ w'.cell? ⟨w.heap.size + 1, 1, none⟩ = some (.slice A1 k c1) ∧ w'.cell? ⟨w.heap.size + 1, 2, none⟩ = some (.slice A2 m2 c2) ∧ w'.cell? ⟨n0 + 1 + 1, 0, none⟩ = some (.func (.func 13) #[] #[.pointer (some ⟨w.heap.size + 1 + 1, 0, none⟩)])) (W'.alloc o) from
        have q := fun {b i : Nat} {v : Value} (h : W'.cell? ⟨b, i, none⟩ = some v) => (World.cell?_alloc_lt W' o ⟨b, i, none⟩ (World.block_lt_of_cell? W' _ h)).trans h
        ⟨q h.1, q h.2.1, q h.2.2.1, q h.2.2.2.1, q h.2.2.2.2⟩))
      have HSp := Lib.hid (fun W' (b : Nat) (v0 v1 v2 v3 : Value) (h : (fun w' => w'.cell? ⟨w.heap.size, 0, none⟩ = some (.slice Ab nb cb) ∧ w'.cell? ⟨w.heap.size + 1, 0, none⟩ = some (.string xp) ∧ w'.cell? ⟨w.heap.size + 1, 1, none⟩ = some (.slice A1 k c1) ∧ w'.cell? ⟨w.heap.size + 1, 2, none⟩ = some (.slice A2 m2 c2) ∧ w'.cell? ⟨n0 + 1 + 1, 0, none⟩ = some (.func (.func 13) #[] #[.pointer (some ⟨w.heap.size + 1 + 1, 0, none⟩)])) W') (hb : w8.heap.size ≤ b) => (show (fun w' => w'.cell? ⟨w.heap.size, 0, none⟩ = some (.slice Ab nb cb) ∧ w'.cell? ⟨w.heap.size + 1, 0, none⟩ = some (.string xp) ∧ w'.cell? ⟨w.heap.size + 1, 1, none⟩ = some (.slice A1 k c1) ∧ w'.cell? ⟨w.heap.size + 1, 2, none⟩ = some (.slice A2 m2 c2) ∧ w'.cell? ⟨n0 + 1 + 1, 0, none⟩ = some (.func (.func 13) #[] #[.pointer (some ⟨w.heap.size + 1 + 1, 0, none⟩)])) (put4 W' b v0 v1 v2 v3) from
        have q := fun {c i : Nat} {v : Value} (hc : c ≠ b) (h : W'.cell? ⟨c, i, none⟩ = some v) => (show (put4 W' b v0 v1 v2 v3).cell? ⟨c, i, none⟩ = some v from by
          unfold put4
          rw [World.cell?_setCell_far _ _ _ _ (Ne.symm hc), World.cell?_setCell_far _ _ _ _ (Ne.symm hc), World.cell?_setCell_far _ _ _ _ (Ne.symm hc), World.cell?_setCell_far _ _ _ _ (Ne.symm hc)]
          exact h)
        ⟨q (by have := HNe.out; omega) h.1, q (by have := HNe.out; omega) h.2.1, q (by have := HNe.out; omega) h.2.2.1, q (by have := HNe.out; omega) h.2.2.2.1, q (by omega) h.2.2.2.2⟩))
      obtain ⟨Y2, hY2⟩ : ∃ y, wrapS (ruleGs xp 0 (a ++ b)) (cntF code) x 0 = y := ⟨_, rfl⟩
      have HY2 := Lib.hid hY2
      clear hY2
      have CB := Lib.hid (fun (Av : Option Addr) (cv p : Nat) (an : Option Nat) (W : World) (M : Nat) (hF : TwF w8 (n0 + 1) (some (.slice Av M cv, [] ++ a ++ b)) (some p) an W) => (show Calls Tryz.prog 15 #[.slice Av M cv, .agg #[.string xp, .slice A1 k c1, .slice A2 m2 c2], cntV p (w.heap.size + 1 + 1)] W fun e w10 => ∃ q t A6 n6 c6 A8 n8 c8, e = .returned (.tuple #[.agg #[.int .i64 q, .string t, .slice A6 n6 c6, .slice A8 n8 c8], .nilIface]) ∧
          Hid (RYk 0 w10 (.agg #[.int .i64 q, .string t, .slice A6 n6 c6, .slice A8 n8 c8]) Y2.1 ∧ (cntS (n0 + 1)).St Y2.2 w10 ∧ w8.grownBy w10 (some (n0 + 1)) ∧ (∀ g' t cs, w8.heap.size ≤ g' → Blk W g' t cs → Blk w10 g' t cs)) from by
        have hown := hF.own _ _ rfl
        obtain ⟨_, _, e9⟩ := hown.form
        injection e9 with _ e9 _
        subst e9
        have hrs := hown.rs
        rw [List.nil_append] at hrs
        have hlen : ([] ++ a ++ b : List RuleV).length = na + nb := by rw [List.nil_append, List.length_append, HA.out.1, HBl.out.1]
        have hPW := HP8.out.trans (hF.bel.mono HP8.out.size)
        have hpne : p ≠ n0 + 1 := by have := (hF.fn p rfl).2; omega
        have hf := cnt_fnc (n0 + 1) p (w.heap.size + 1 + 1) code (0 + ([] ++ a ++ b : List RuleV).length) (fun i => i = n0 + 1) W (by rw [hlen]; omega) (hF.fn p rfl).1 (HK8.out.2.2.below hF.bel HK8.out.2.2.lt) hpne (by have := HNe.out; omega) ⟨hpne, by have := HNe.out; omega⟩
        have hap := apply_any (cntS (n0 + 1)) (cnt_keeps (n0 + 1)) 0 (fun i => i = n0 + 1) Av A1 A2 ([] ++ a ++ b : List RuleV).length cv k c1 m2 c2 (a ++ b) x (cntV p (w.heap.size + 1 + 1)) (cntF code) 0 W (by rw [hlen]; omega) (by omega) (fun i h => by subst h; exact Nat.lt_of_lt_of_le ht8 hF.bel.size) (fun i h => by injection h with h; exact h.symm) (HE.out.below hPW) hrs (fun r hr => by
          rcases List.mem_append.1 hr with hr | hr
          · exact HF.out.1 r hr
          · exact HF.out.2 r hr) (HH.out.below hPW) ((HD.out.below hPW).more hPW.size) (by have := HL.out.2.2; have := HH.out.1; omega) (by have := HN.out.2.2.2; have := HD.out.1; omega) hf (HT8.out.below hF.bel ht8)
        rw [HXp.out] at hap
        refine hap.mono ?_
        rintro e w10 ⟨yv, rfl, j1, j2, j3⟩
        rw [HY2.out] at j1 j2
        obtain ⟨q, t, A6, n6, c6, A8, n8, c8, rfl⟩ := (shaped_call 0).y j1
        exact ⟨q, t, A6, n6, c6, A8, n8, c8, rfl, Lib.hid ⟨j1, j2, grown_trans (grown_of_below hF.bel _) j3, fun g' t cs hg' hb' => hb'.grown j3 (fun e => by injection e with e; omega)⟩⟩))
      obtain ⟨M, hM⟩ : ∃ M, ([] ++ a ++ b : List RuleV).length = M := ⟨_, rfl⟩
      have HMl := Lib.hid hM
      clear hM
      have HF0 := Lib.hid (TwF.start w8 (n0 + 1))
      clear n1ne
      go_cut [16, 17] (fun s16 s17 wx => ∃ (g6 : Nat) (q2 : Int) (t2 : ByteArray) (A9 : Option Addr) (n9 c9 : Nat) (A10 : Option Addr) (n10 c10 : Nat), s16 = .pointer (some ⟨g6, 0, none⟩) ∧ s17 = .nilIface ∧ Hid (Fin2 (n0 + 1) w8 wx g6 (.int .i64 q2) (.string t2) (.slice A9 n9 c9) (.slice A10 n10 c10) Y2))
      case first =>
        refine wp_region_noPanic ?_
        refine wp_region_held_drew (S := (fun w' => w'.cell? ⟨w.heap.size, 0, none⟩ = some (.slice Ab nb cb) ∧ w'.cell? ⟨w.heap.size + 1, 0, none⟩ = some (.string xp) ∧ w'.cell? ⟨w.heap.size + 1, 1, none⟩ = some (.slice A1 k c1) ∧ w'.cell? ⟨w.heap.size + 1, 2, none⟩ = some (.slice A2 m2 c2) ∧ w'.cell? ⟨n0 + 1 + 1, 0, none⟩ = some (.func (.func 13) #[] #[.pointer (some ⟨w.heap.size + 1 + 1, 0, none⟩)]))) (by kernel_rfl) (HSf.out w8 (Below.refl _ _)) (fun hHeld => ?_)
        refine wpAnyH_take (i := 1) (oi := { dst := some 85, op := Op.move (Operand.tmp 0), type := 22, pos := "law.go:284", after := #[], guard := none }) (v := ?_) rfl (by kernel_rfl) (by kernel_rfl) (by kernel_rfl) (fun _ _ _ h => h) (Or.inl ⟨by rfl, ?_⟩) hHeld ?_
        rotate_left
        · intro w hSw; (try dsimp only at hSw); (try go_split_ands); go_simp; (first | done | with_reducible rfl)
        (try simp only [Act.put, List.setIfInBounds_toArray, List.set_cons_zero, List.set_cons_succ])
        refine wpAnyH_take (i := 3) (oi := { dst := some 87, op := Op.load 22 (Operand.tmp 5), type := 22, pos := "law.go:284", after := #[], guard := none }) (v := ?_) rfl (by kernel_rfl) (by kernel_rfl) (by kernel_rfl) (fun _ _ _ h => h) (Or.inl ⟨by rfl, ?_⟩) hHeld ?_
        rotate_left
        · intro w hSw; (try dsimp only at hSw); (try go_split_ands); go_simp; (first | done | with_reducible rfl)
        (try simp only [Act.put, List.setIfInBounds_toArray, List.set_cons_zero, List.set_cons_succ])
        refine wpAnyH_take (i := 5) (oi := { dst := some 89, op := Op.load 26 (Operand.tmp 6), type := 26, pos := "law.go:284", after := #[], guard := none }) (v := ?_) rfl (by kernel_rfl) (by kernel_rfl) (by kernel_rfl) (fun _ _ _ h => h) (Or.inl ⟨by rfl, ?_⟩) hHeld ?_
        rotate_left
        · intro w hSw; (try dsimp only at hSw); (try go_split_ands); go_simp; (first | done | with_reducible rfl)
        (try simp only [Act.put, List.setIfInBounds_toArray, List.set_cons_zero, List.set_cons_succ])
        refine wpAnyH_take (i := 6) (oi := { dst := some 90, op := Op.load 40 (Operand.tmp 13), type := 40, pos := "law.go:284", after := #[], guard := none }) (v := ?_) rfl (by kernel_rfl) (by kernel_rfl) (by kernel_rfl) (fun _ _ _ h => h) (Or.inl ⟨by rfl, ?_⟩) hHeld ?_
        rotate_left
        · intro w hSw; (try dsimp only at hSw); (try go_split_ands); go_simp; (first | done | with_reducible rfl)
        (try simp only [Act.put, List.setIfInBounds_toArray, List.set_cons_zero, List.set_cons_succ])
        refine wpAnyH_ready (rs := [0, 12]) (by kernel_rfl) (by simp) ?_
        refine AllReadyH.cons (o := { dst := some 84, op := Op.makeSlice 22 (Operand.const (Value.int IntKind.i64 0)) (Operand.const (Value.int IntKind.i64 80)), type := 22, pos := "law.go:284", after := #[], guard := none }) rfl (fun K hK => ?_) (AllReadyH.cons (o := { dst := some 16, op := Op.alloc 39, type := 0, pos := "law.go:284", after := #[], guard := none }) rfl (fun K hK => ?_) AllReadyH.nil)
        · refine step_mk_r _ (by rfl) (by rfl) ?_
          intro wm1 hm0 hm1
          have HF1 := Lib.hid (HF0.out.made hm0 hm1)
          clear hm0 hm1
          have hs := HSf.out _ HF1.out.bel
          refine hK.out _ _ hs (fun hHeld2 => ?_)
          clear hHeld
          have hHeld := hHeld2
          clear hHeld2 hK K
          (try simp only [Act.put, List.setIfInBounds_toArray, List.set_cons_zero, List.set_cons_succ])
          refine wpAnyH_ready (rs := [2, 12]) (by kernel_rfl) (by simp) ?_
          refine AllReadyH.cons (o := { dst := some 86, op := Op.call { callee := Callee.builtin Builtin.append, args := #[Operand.tmp 84, Operand.tmp 85], argTypes := #[22, 22] }, type := 22, pos := "law.go:284", after := #[{ on := 0, ground := Ground.data }, { on := 1, ground := Ground.data }], guard := none }) rfl (fun K hK => ?_) (AllReadyH.cons (o := { dst := some 16, op := Op.alloc 39, type := 0, pos := "law.go:284", after := #[], guard := none }) rfl (fun K hK => ?_) AllReadyH.nil)
          · refine step_app_r _ (by rfl) (.tmp 84) (.tmp 85) (by rfl) w8.heap.size _ [] (by rfl) (HF1.out.own _ _ rfl) Aa na ca a (by rfl) (HA.out.below (HP8.out.trans (HF1.out.bel.mono HP8.out.size))) (by simp; omega) HF1.out.bel.size ?_
            intro va2 wa2 ha0 ha1 ha2
            have HF2 := Lib.hid (HF1.out.ap ha0 ha1)
            clear ha0 ha1 ha2
            have hs := HSf.out _ HF2.out.bel
            refine hK.out _ _ hs (fun hHeld2 => ?_)
            clear hHeld
            have hHeld := hHeld2
            clear hHeld2 hK K
            (try simp only [Act.put, List.setIfInBounds_toArray, List.set_cons_zero, List.set_cons_succ])
            refine wpAnyH_ready (rs := [4, 12]) (by kernel_rfl) (by simp) ?_
            refine AllReadyH.cons (o := { dst := some 88, op := Op.call { callee := Callee.builtin Builtin.append, args := #[Operand.tmp 86, Operand.tmp 87], argTypes := #[22, 22] }, type := 22, pos := "law.go:284", after := #[{ on := 2, ground := Ground.data }, { on := 3, ground := Ground.data }, { on := 2, ground := Ground.chain }], guard := none }) rfl (fun K hK => ?_) (AllReadyH.cons (o := { dst := some 16, op := Op.alloc 39, type := 0, pos := "law.go:284", after := #[], guard := none }) rfl (fun K hK => ?_) AllReadyH.nil)
            · refine step_app_r _ (by rfl) (.tmp 86) (.tmp 87) (by rfl) w8.heap.size _ ([] ++ a) (by rfl) (HF2.out.own _ _ rfl) Ab nb cb b (by rfl) (HBl.out.below (HP8.out.trans (HF2.out.bel.mono HP8.out.size))) (by have := HA.out.1; simp; omega) HF2.out.bel.size ?_
              intro va3 wa3 ha0 ha1 ha2
              have HF3 := Lib.hid (HF2.out.ap ha0 ha1)
              clear ha0 ha1 ha2
              obtain ⟨Av3, cv3, hv3⟩ := (HF3.out.own _ _ rfl).form
              rw [HMl.out] at hv3
              subst hv3
              have hs := HSf.out _ HF3.out.bel
              refine hK.out _ _ hs (fun hHeld2 => ?_)
              clear hHeld
              have hHeld := hHeld2
              clear hHeld2 hK K
              (try simp only [Act.put, List.setIfInBounds_toArray, List.set_cons_zero, List.set_cons_succ])
              refine wpAnyH_ready (rs := [7, 12]) (by kernel_rfl) (by simp) ?_
              refine AllReadyH.cons (o := { dst := some 91, op := Op.call { callee := Callee.value (Operand.tmp 90), args := #[Operand.tmp 12], argTypes := #[36] }, type := 37, pos := "law.go:284", after := #[{ on := 6, ground := Ground.data }, { on := 4, ground := Ground.chain }], guard := none }) rfl (fun K hK => ?_) (AllReadyH.cons (o := { dst := some 16, op := Op.alloc 39, type := 0, pos := "law.go:284", after := #[], guard := none }) rfl (fun K hK => ?_) AllReadyH.nil)
              · go_simp
                (with_reducible refine (cntMk' (n0 + 1) (w.heap.size + 1 + 1) _).mono ?_)
                rintro e wx4 ⟨pf4, rfl, hx4⟩
                have HF4 := Lib.hid (HF3.out.mkf' hx4.out.1 hx4.out.2)
                clear hx4
                have hs := HSf.out _ HF4.out.bel
                refine hK.out _ _ hs (fun hHeld2 => ?_)
                clear hHeld
                have hHeld := hHeld2
                clear hHeld2 hK K
                (try simp only [Act.put, List.setIfInBounds_toArray, List.set_cons_zero, List.set_cons_succ])
                refine wpAnyH_ready (rs := [8, 12]) (by kernel_rfl) (by simp) ?_
                refine AllReadyH.cons (o := { dst := some 92, op := Op.call { callee := Callee.value (Operand.func 15), args := #[Operand.tmp 88, Operand.tmp 89, Operand.tmp 91], argTypes := #[22, 26, 37] }, type := 41, pos := "law.go:284", after := #[{ on := 4, ground := Ground.data }, { on := 5, ground := Ground.data }, { on := 7, ground := Ground.data }, { on := 7, ground := Ground.chain }], guard := none }) rfl (fun K hK => ?_) (AllReadyH.cons (o := { dst := some 16, op := Op.alloc 39, type := 0, pos := "law.go:284", after := #[], guard := none }) rfl (fun K hK => ?_) AllReadyH.nil)
                · go_simp
                  go_at_call 15
                  (with_reducible refine (CB.out _ _ _ _ _ _ HF4.out).mono ?_)
                  rintro e w10 ⟨q2, tx2, A9, n9, c9, A10, n10, c10, rfl, H10⟩
                  have hs := HSg.out w10 H10.out.2.2.1
                  refine hK.out _ _ hs (fun hHeld2 => ?_)
                  clear hHeld
                  have hHeld := hHeld2
                  clear hHeld2 hK K
                  (try simp only [Act.put, List.setIfInBounds_toArray, List.set_cons_zero, List.set_cons_succ])
                  refine wpAnyH_take (i := 9) (oi := { dst := some 83, op := Op.move (Operand.tmp 92), type := 41, pos := "law.go:284", after := #[{ on := 8, ground := Ground.data }], guard := none }) (v := ?_) rfl (by kernel_rfl) (by kernel_rfl) (by kernel_rfl) (fun _ _ _ h => h) (Or.inl ⟨by rfl, ?_⟩) hHeld ?_
                  rotate_left
                  · intro w hSw; (try dsimp only at hSw); (try go_split_ands); go_simp; (first | done | with_reducible rfl)
                  (try simp only [Act.put, List.setIfInBounds_toArray, List.set_cons_zero, List.set_cons_succ])
                  refine wpAnyH_take (i := 10) (oi := { dst := some 93, op := Op.extract (Operand.tmp 83) 0, type := 39, pos := "law.go:284", after := #[{ on := 9, ground := Ground.data }], guard := none }) (v := ?_) rfl (by kernel_rfl) (by kernel_rfl) (by kernel_rfl) (fun _ _ _ h => h) (Or.inl ⟨by rfl, ?_⟩) hHeld ?_
                  rotate_left
                  · intro w hSw; (try dsimp only at hSw); (try go_split_ands); go_simp; (first | done | with_reducible rfl)
                  (try simp only [Act.put, List.setIfInBounds_toArray, List.set_cons_zero, List.set_cons_succ])
                  refine wpAnyH_take (i := 11) (oi := { dst := some 94, op := Op.extract (Operand.tmp 83) 1, type := 30, pos := "law.go:284", after := #[{ on := 9, ground := Ground.data }, { on := 13, ground := Ground.gcOnly Departure.lateStores }], guard := none }) (v := ?_) rfl (by kernel_rfl) (by kernel_rfl) (by kernel_rfl) (fun _ _ _ h => h) (Or.inl ⟨by rfl, ?_⟩) hHeld ?_
                  rotate_left
                  · intro w hSw; (try dsimp only at hSw); (try go_split_ands); go_simp; (first | done | with_reducible rfl)
                  (try simp only [Act.put, List.setIfInBounds_toArray, List.set_cons_zero, List.set_cons_succ])
                  have hS10 := hHeld
                  refine wpAnyH_ready (rs := [12]) (by kernel_rfl) (by simp) ?_
                  refine AllReadyH.cons (o := { dst := some 16, op := Op.alloc 39, type := 0, pos := "law.go:284", after := #[], guard := none }) rfl (fun K hK => ?_) AllReadyH.nil
                  go_simp
                  have hs := HSa.out w10 (.cells ans0 39) hHeld
                  refine hK.out _ _ hs (fun hHeld2 => ?_)
                  clear hHeld
                  have hHeld := hHeld2
                  clear hHeld2 hK K
                  (try simp only [Act.put, List.setIfInBounds_toArray, List.set_cons_zero, List.set_cons_succ])
                  refine wpAnyH_ready (rs := [13]) (by kernel_rfl) (by simp) ?_
                  refine AllReadyH.cons (o := { dst := none, op := Op.store 39 (Operand.tmp 16) (Operand.tmp 93), type := 0, pos := "law.go:284", after := #[{ on := 12, ground := Ground.data }, { on := 10, ground := Ground.data }, { on := 8, ground := Ground.chain }, { on := 0, ground := Ground.phase }, { on := 1, ground := Ground.phase }, { on := 2, ground := Ground.phase }, { on := 3, ground := Ground.phase }, { on := 4, ground := Ground.phase }, { on := 5, ground := Ground.phase }, { on := 6, ground := Ground.phase }, { on := 7, ground := Ground.phase }, { on := 8, ground := Ground.phase }, { on := 9, ground := Ground.phase }, { on := 10, ground := Ground.phase }, { on := 11, ground := Ground.textOnly Departure.lateStores }, { on := 12, ground := Ground.phase }], guard := none }) rfl (fun K hK => ?_) AllReadyH.nil
                  go_simp
                  have hs := HSa.out w10 (.cells #[.int .i64 q2, .string tx2, .slice A9 n9 c9, .slice A10 n10 c10] 39) hS10
                  refine hK.out _ _ hs (fun hHeld2 => ?_)
                  clear hHeld
                  have hHeld := hHeld2
                  clear hHeld2 hK K
                  (try simp only [Act.put, List.setIfInBounds_toArray, List.set_cons_zero, List.set_cons_succ])
                  refine wpAnyH_take (i := 14) (oi := { dst := some 17, op := Op.assign (Operand.tmp 94), type := 30, pos := "law.go:284", after := #[{ on := 11, ground := Ground.data }, { on := 13, ground := Ground.chain }, { on := 0, ground := Ground.phase }, { on := 1, ground := Ground.phase }, { on := 2, ground := Ground.phase }, { on := 3, ground := Ground.phase }, { on := 4, ground := Ground.phase }, { on := 5, ground := Ground.phase }, { on := 6, ground := Ground.phase }, { on := 7, ground := Ground.phase }, { on := 8, ground := Ground.phase }, { on := 9, ground := Ground.phase }, { on := 10, ground := Ground.phase }, { on := 11, ground := Ground.phase }, { on := 12, ground := Ground.phase }, { on := 13, ground := Ground.phase }], guard := none }) (v := ?_) rfl (by kernel_rfl) (by kernel_rfl) (by kernel_rfl) (fun _ _ _ h => h) (Or.inl ⟨by rfl, ?_⟩) hHeld ?_
                  rotate_left
                  · intro w hSw; (try dsimp only at hSw); (try go_split_ands); go_simp; (first | done | with_reducible rfl)
                  (try simp only [Act.put, List.setIfInBounds_toArray, List.set_cons_zero, List.set_cons_succ])
                  refine wpAnyH_done (by kernel_rfl) ?_ _
                  refine NoPanic.normal ?_
                  go_wp2_with fail
                  go_meet
                  exact ⟨w10.heap.size, q2, tx2, A9, n9, c9, A10, n10, c10, rfl, rfl, Lib.hid (fin2_new H10.out.1 H10.out.2.1 H10.out.2.2.1)⟩
                · go_simp
                  obtain ⟨wz5, hz5⟩ : ∃ wz, wz = wx4.alloc (.cells #[.int .i64 0, .string ⟨#[]⟩, .slice none 0 0, .slice none 0 0] 39) := ⟨_, rfl⟩
                  rw [← hz5]
                  have HF5 := Lib.hid (HF4.out.room' (q := wx4.heap.size) rfl hz5)
                  clear hz5
                  have hs := HSf.out _ HF5.out.bel
                  refine hK.out _ _ hs (fun hHeld2 => ?_)
                  clear hHeld
                  have hHeld := hHeld2
                  clear hHeld2 hK K
                  (try simp only [Act.put, List.setIfInBounds_toArray, List.set_cons_zero, List.set_cons_succ])
                  refine wpAnyH_ready (rs := [8]) (by kernel_rfl) (by simp) ?_
                  refine AllReadyH.cons (o := { dst := some 92, op := Op.call { callee := Callee.value (Operand.func 15), args := #[Operand.tmp 88, Operand.tmp 89, Operand.tmp 91], argTypes := #[22, 26, 37] }, type := 41, pos := "law.go:284", after := #[{ on := 4, ground := Ground.data }, { on := 5, ground := Ground.data }, { on := 7, ground := Ground.data }, { on := 7, ground := Ground.chain }], guard := none }) rfl (fun K hK => ?_) AllReadyH.nil
                  go_simp
                  go_at_call 15
                  (with_reducible refine (CB.out _ _ _ _ _ _ HF5.out).mono ?_)
                  rintro e w10 ⟨q2, tx2, A9, n9, c9, A10, n10, c10, rfl, H10⟩
                  have hs := HSg.out w10 H10.out.2.2.1
                  refine hK.out _ _ hs (fun hHeld2 => ?_)
                  clear hHeld
                  have hHeld := hHeld2
                  clear hHeld2 hK K
                  (try simp only [Act.put, List.setIfInBounds_toArray, List.set_cons_zero, List.set_cons_succ])
                  refine wpAnyH_take (i := 9) (oi := { dst := some 83, op := Op.move (Operand.tmp 92), type := 41, pos := "law.go:284", after := #[{ on := 8, ground := Ground.data }], guard := none }) (v := ?_) rfl (by kernel_rfl) (by kernel_rfl) (by kernel_rfl) (fun _ _ _ h => h) (Or.inl ⟨by rfl, ?_⟩) hHeld ?_
                  rotate_left
                  · intro w hSw; (try dsimp only at hSw); (try go_split_ands); go_simp; (first | done | with_reducible rfl)
                  (try simp only [Act.put, List.setIfInBounds_toArray, List.set_cons_zero, List.set_cons_succ])
                  refine wpAnyH_take (i := 10) (oi := { dst := some 93, op := Op.extract (Operand.tmp 83) 0, type := 39, pos := "law.go:284", after := #[{ on := 9, ground := Ground.data }], guard := none }) (v := ?_) rfl (by kernel_rfl) (by kernel_rfl) (by kernel_rfl) (fun _ _ _ h => h) (Or.inl ⟨by rfl, ?_⟩) hHeld ?_
                  rotate_left
                  · intro w hSw; (try dsimp only at hSw); (try go_split_ands); go_simp; (first | done | with_reducible rfl)
                  (try simp only [Act.put, List.setIfInBounds_toArray, List.set_cons_zero, List.set_cons_succ])
                  refine wpAnyH_take (i := 11) (oi := { dst := some 94, op := Op.extract (Operand.tmp 83) 1, type := 30, pos := "law.go:284", after := #[{ on := 9, ground := Ground.data }, { on := 13, ground := Ground.gcOnly Departure.lateStores }], guard := none }) (v := ?_) rfl (by kernel_rfl) (by kernel_rfl) (by kernel_rfl) (fun _ _ _ h => h) (Or.inl ⟨by rfl, ?_⟩) hHeld ?_
                  rotate_left
                  · intro w hSw; (try dsimp only at hSw); (try go_split_ands); go_simp; (first | done | with_reducible rfl)
                  (try simp only [Act.put, List.setIfInBounds_toArray, List.set_cons_zero, List.set_cons_succ])
                  have HBq := Lib.hid (H10.out.2.2.2 _ _ _ (HF5.out.ans _ rfl).2 (HF5.out.ans _ rfl).1)
                  have hbq := (HF5.out.ans _ rfl).2
                  refine wpAnyH_ready (rs := [13]) (by kernel_rfl) (by simp) ?_
                  refine AllReadyH.cons (o := { dst := none, op := Op.store 39 (Operand.tmp 16) (Operand.tmp 93), type := 0, pos := "law.go:284", after := #[{ on := 12, ground := Ground.data }, { on := 10, ground := Ground.data }, { on := 8, ground := Ground.chain }, { on := 0, ground := Ground.phase }, { on := 1, ground := Ground.phase }, { on := 2, ground := Ground.phase }, { on := 3, ground := Ground.phase }, { on := 4, ground := Ground.phase }, { on := 5, ground := Ground.phase }, { on := 6, ground := Ground.phase }, { on := 7, ground := Ground.phase }, { on := 8, ground := Ground.phase }, { on := 9, ground := Ground.phase }, { on := 10, ground := Ground.phase }, { on := 11, ground := Ground.textOnly Departure.lateStores }, { on := 12, ground := Ground.phase }], guard := none }) rfl (fun K hK => ?_) AllReadyH.nil
                  obtain ⟨z0, z1, z2, z3, z4, z5, z6, z7⟩ := ans_cells HBq.out
                  go_simp
                  have hs := HSp.out w10 _ (.int .i64 q2) (.string tx2) (.slice A9 n9 c9) (.slice A10 n10 c10) hHeld hbq
                  refine hK.out _ _ hs (fun hHeld2 => ?_)
                  clear hHeld
                  have hHeld := hHeld2
                  clear hHeld2 hK K
                  (try simp only [Act.put, List.setIfInBounds_toArray, List.set_cons_zero, List.set_cons_succ])
                  refine wpAnyH_take (i := 14) (oi := { dst := some 17, op := Op.assign (Operand.tmp 94), type := 30, pos := "law.go:284", after := #[{ on := 11, ground := Ground.data }, { on := 13, ground := Ground.chain }, { on := 0, ground := Ground.phase }, { on := 1, ground := Ground.phase }, { on := 2, ground := Ground.phase }, { on := 3, ground := Ground.phase }, { on := 4, ground := Ground.phase }, { on := 5, ground := Ground.phase }, { on := 6, ground := Ground.phase }, { on := 7, ground := Ground.phase }, { on := 8, ground := Ground.phase }, { on := 9, ground := Ground.phase }, { on := 10, ground := Ground.phase }, { on := 11, ground := Ground.phase }, { on := 12, ground := Ground.phase }, { on := 13, ground := Ground.phase }], guard := none }) (v := ?_) rfl (by kernel_rfl) (by kernel_rfl) (by kernel_rfl) (fun _ _ _ h => h) (Or.inl ⟨by rfl, ?_⟩) hHeld ?_
                  rotate_left
                  · intro w hSw; (try dsimp only at hSw); (try go_split_ands); go_simp; (first | done | with_reducible rfl)
                  (try simp only [Act.put, List.setIfInBounds_toArray, List.set_cons_zero, List.set_cons_succ])
                  refine wpAnyH_done (by kernel_rfl) ?_ _
                  refine NoPanic.normal ?_
                  go_wp2_with fail
                  go_meet
                  exact ⟨_, q2, tx2, A9, n9, c9, A10, n10, c10, rfl, rfl, Lib.hid (fin2_put hbq H10.out.1 H10.out.2.1 H10.out.2.2.1 HBq.out)⟩
              · go_simp
                obtain ⟨wz6, hz6⟩ : ∃ wz, wz = wa3.alloc (.cells #[.int .i64 0, .string ⟨#[]⟩, .slice none 0 0, .slice none 0 0] 39) := ⟨_, rfl⟩
                rw [← hz6]
                have HF6 := Lib.hid (HF3.out.room' (q := wa3.heap.size) rfl hz6)
                clear hz6
                have hs := HSf.out _ HF6.out.bel
                refine hK.out _ _ hs (fun hHeld2 => ?_)
                clear hHeld
                have hHeld := hHeld2
                clear hHeld2 hK K
                (try simp only [Act.put, List.setIfInBounds_toArray, List.set_cons_zero, List.set_cons_succ])
                refine wpAnyH_ready (rs := [7]) (by kernel_rfl) (by simp) ?_
                refine AllReadyH.cons (o := { dst := some 91, op := Op.call { callee := Callee.value (Operand.tmp 90), args := #[Operand.tmp 12], argTypes := #[36] }, type := 37, pos := "law.go:284", after := #[{ on := 6, ground := Ground.data }, { on := 4, ground := Ground.chain }], guard := none }) rfl (fun K hK => ?_) AllReadyH.nil
                go_simp
                (with_reducible refine (cntMk' (n0 + 1) (w.heap.size + 1 + 1) _).mono ?_)
                rintro e wx7 ⟨pf7, rfl, hx7⟩
                have HF7 := Lib.hid (HF6.out.mkf' hx7.out.1 hx7.out.2)
                clear hx7
                have hs := HSf.out _ HF7.out.bel
                refine hK.out _ _ hs (fun hHeld2 => ?_)
                clear hHeld
                have hHeld := hHeld2
                clear hHeld2 hK K
                (try simp only [Act.put, List.setIfInBounds_toArray, List.set_cons_zero, List.set_cons_succ])
                refine wpAnyH_ready (rs := [8]) (by kernel_rfl) (by simp) ?_
                refine AllReadyH.cons (o := { dst := some 92, op := Op.call { callee := Callee.value (Operand.func 15), args := #[Operand.tmp 88, Operand.tmp 89, Operand.tmp 91], argTypes := #[22, 26, 37] }, type := 41, pos := "law.go:284", after := #[{ on := 4, ground := Ground.data }, { on := 5, ground := Ground.data }, { on := 7, ground := Ground.data }, { on := 7, ground := Ground.chain }], guard := none }) rfl (fun K hK => ?_) AllReadyH.nil
                go_simp
                go_at_call 15
                (with_reducible refine (CB.out _ _ _ _ _ _ HF7.out).mono ?_)
                rintro e w10 ⟨q2, tx2, A9, n9, c9, A10, n10, c10, rfl, H10⟩
                have hs := HSg.out w10 H10.out.2.2.1
                refine hK.out _ _ hs (fun hHeld2 => ?_)
                clear hHeld
                have hHeld := hHeld2
                clear hHeld2 hK K
                (try simp only [Act.put, List.setIfInBounds_toArray, List.set_cons_zero, List.set_cons_succ])
                refine wpAnyH_take (i := 9) (oi := { dst := some 83, op := Op.move (Operand.tmp 92), type := 41, pos := "law.go:284", after := #[{ on := 8, ground := Ground.data }], guard := none }) (v := ?_) rfl (by kernel_rfl) (by kernel_rfl) (by kernel_rfl) (fun _ _ _ h => h) (Or.inl ⟨by rfl, ?_⟩) hHeld ?_
                rotate_left
                · intro w hSw; (try dsimp only at hSw); (try go_split_ands); go_simp; (first | done | with_reducible rfl)
                (try simp only [Act.put, List.setIfInBounds_toArray, List.set_cons_zero, List.set_cons_succ])
                refine wpAnyH_take (i := 10) (oi := { dst := some 93, op := Op.extract (Operand.tmp 83) 0, type := 39, pos := "law.go:284", after := #[{ on := 9, ground := Ground.data }], guard := none }) (v := ?_) rfl (by kernel_rfl) (by kernel_rfl) (by kernel_rfl) (fun _ _ _ h => h) (Or.inl ⟨by rfl, ?_⟩) hHeld ?_
                rotate_left
                · intro w hSw; (try dsimp only at hSw); (try go_split_ands); go_simp; (first | done | with_reducible rfl)
                (try simp only [Act.put, List.setIfInBounds_toArray, List.set_cons_zero, List.set_cons_succ])
                refine wpAnyH_take (i := 11) (oi := { dst := some 94, op := Op.extract (Operand.tmp 83) 1, type := 30, pos := "law.go:284", after := #[{ on := 9, ground := Ground.data }, { on := 13, ground := Ground.gcOnly Departure.lateStores }], guard := none }) (v := ?_) rfl (by kernel_rfl) (by kernel_rfl) (by kernel_rfl) (fun _ _ _ h => h) (Or.inl ⟨by rfl, ?_⟩) hHeld ?_
                rotate_left
                · intro w hSw; (try dsimp only at hSw); (try go_split_ands); go_simp; (first | done | with_reducible rfl)
                (try simp only [Act.put, List.setIfInBounds_toArray, List.set_cons_zero, List.set_cons_succ])
                have HBq := Lib.hid (H10.out.2.2.2 _ _ _ (HF7.out.ans _ rfl).2 (HF7.out.ans _ rfl).1)
                have hbq := (HF7.out.ans _ rfl).2
                refine wpAnyH_ready (rs := [13]) (by kernel_rfl) (by simp) ?_
                refine AllReadyH.cons (o := { dst := none, op := Op.store 39 (Operand.tmp 16) (Operand.tmp 93), type := 0, pos := "law.go:284", after := #[{ on := 12, ground := Ground.data }, { on := 10, ground := Ground.data }, { on := 8, ground := Ground.chain }, { on := 0, ground := Ground.phase }, { on := 1, ground := Ground.phase }, { on := 2, ground := Ground.phase }, { on := 3, ground := Ground.phase }, { on := 4, ground := Ground.phase }, { on := 5, ground := Ground.phase }, { on := 6, ground := Ground.phase }, { on := 7, ground := Ground.phase }, { on := 8, ground := Ground.phase }, { on := 9, ground := Ground.phase }, { on := 10, ground := Ground.phase }, { on := 11, ground := Ground.textOnly Departure.lateStores }, { on := 12, ground := Ground.phase }], guard := none }) rfl (fun K hK => ?_) AllReadyH.nil
                obtain ⟨z0, z1, z2, z3, z4, z5, z6, z7⟩ := ans_cells HBq.out
                go_simp
                have hs := HSp.out w10 _ (.int .i64 q2) (.string tx2) (.slice A9 n9 c9) (.slice A10 n10 c10) hHeld hbq
                refine hK.out _ _ hs (fun hHeld2 => ?_)
                clear hHeld
                have hHeld := hHeld2
                clear hHeld2 hK K
                (try simp only [Act.put, List.setIfInBounds_toArray, List.set_cons_zero, List.set_cons_succ])
                refine wpAnyH_take (i := 14) (oi := { dst := some 17, op := Op.assign (Operand.tmp 94), type := 30, pos := "law.go:284", after := #[{ on := 11, ground := Ground.data }, { on := 13, ground := Ground.chain }, { on := 0, ground := Ground.phase }, { on := 1, ground := Ground.phase }, { on := 2, ground := Ground.phase }, { on := 3, ground := Ground.phase }, { on := 4, ground := Ground.phase }, { on := 5, ground := Ground.phase }, { on := 6, ground := Ground.phase }, { on := 7, ground := Ground.phase }, { on := 8, ground := Ground.phase }, { on := 9, ground := Ground.phase }, { on := 10, ground := Ground.phase }, { on := 11, ground := Ground.phase }, { on := 12, ground := Ground.phase }, { on := 13, ground := Ground.phase }], guard := none }) (v := ?_) rfl (by kernel_rfl) (by kernel_rfl) (by kernel_rfl) (fun _ _ _ h => h) (Or.inl ⟨by rfl, ?_⟩) hHeld ?_
                rotate_left
                · intro w hSw; (try dsimp only at hSw); (try go_split_ands); go_simp; (first | done | with_reducible rfl)
                (try simp only [Act.put, List.setIfInBounds_toArray, List.set_cons_zero, List.set_cons_succ])
                refine wpAnyH_done (by kernel_rfl) ?_ _
                refine NoPanic.normal ?_
                go_wp2_with fail
                go_meet
                exact ⟨_, q2, tx2, A9, n9, c9, A10, n10, c10, rfl, rfl, Lib.hid (fin2_put hbq H10.out.1 H10.out.2.1 H10.out.2.2.1 HBq.out)⟩
            · go_simp
              obtain ⟨wz8, hz8⟩ : ∃ wz, wz = wa2.alloc (.cells #[.int .i64 0, .string ⟨#[]⟩, .slice none 0 0, .slice none 0 0] 39) := ⟨_, rfl⟩
              rw [← hz8]
              have HF8 := Lib.hid (HF2.out.room' (q := wa2.heap.size) rfl hz8)
              clear hz8
              have hs := HSf.out _ HF8.out.bel
              refine hK.out _ _ hs (fun hHeld2 => ?_)
              clear hHeld
              have hHeld := hHeld2
              clear hHeld2 hK K
              (try simp only [Act.put, List.setIfInBounds_toArray, List.set_cons_zero, List.set_cons_succ])
              refine wpAnyH_ready (rs := [4]) (by kernel_rfl) (by simp) ?_
              refine AllReadyH.cons (o := { dst := some 88, op := Op.call { callee := Callee.builtin Builtin.append, args := #[Operand.tmp 86, Operand.tmp 87], argTypes := #[22, 22] }, type := 22, pos := "law.go:284", after := #[{ on := 2, ground := Ground.data }, { on := 3, ground := Ground.data }, { on := 2, ground := Ground.chain }], guard := none }) rfl (fun K hK => ?_) AllReadyH.nil
              refine step_app_r _ (by rfl) (.tmp 86) (.tmp 87) (by rfl) w8.heap.size _ ([] ++ a) (by rfl) (HF8.out.own _ _ rfl) Ab nb cb b (by rfl) (HBl.out.below (HP8.out.trans (HF8.out.bel.mono HP8.out.size))) (by have := HA.out.1; simp; omega) HF8.out.bel.size ?_
              intro va9 wa9 ha0 ha1 ha2
              have HF9 := Lib.hid (HF8.out.ap ha0 ha1)
              clear ha0 ha1 ha2
              obtain ⟨Av9, cv9, hv9⟩ := (HF9.out.own _ _ rfl).form
              rw [HMl.out] at hv9
              subst hv9
              have hs := HSf.out _ HF9.out.bel
              refine hK.out _ _ hs (fun hHeld2 => ?_)
              clear hHeld
              have hHeld := hHeld2
              clear hHeld2 hK K
              (try simp only [Act.put, List.setIfInBounds_toArray, List.set_cons_zero, List.set_cons_succ])
              refine wpAnyH_ready (rs := [7]) (by kernel_rfl) (by simp) ?_
              refine AllReadyH.cons (o := { dst := some 91, op := Op.call { callee := Callee.value (Operand.tmp 90), args := #[Operand.tmp 12], argTypes := #[36] }, type := 37, pos := "law.go:284", after := #[{ on := 6, ground := Ground.data }, { on := 4, ground := Ground.chain }], guard := none }) rfl (fun K hK => ?_) AllReadyH.nil
              go_simp
              (with_reducible refine (cntMk' (n0 + 1) (w.heap.size + 1 + 1) _).mono ?_)
              rintro e wx10 ⟨pf10, rfl, hx10⟩
              have HF10 := Lib.hid (HF9.out.mkf' hx10.out.1 hx10.out.2)
              clear hx10
              have hs := HSf.out _ HF10.out.bel
              refine hK.out _ _ hs (fun hHeld2 => ?_)
              clear hHeld
              have hHeld := hHeld2
              clear hHeld2 hK K
              (try simp only [Act.put, List.setIfInBounds_toArray, List.set_cons_zero, List.set_cons_succ])
              refine wpAnyH_ready (rs := [8]) (by kernel_rfl) (by simp) ?_
              refine AllReadyH.cons (o := { dst := some 92, op := Op.call { callee := Callee.value (Operand.func 15), args := #[Operand.tmp 88, Operand.tmp 89, Operand.tmp 91], argTypes := #[22, 26, 37] }, type := 41, pos := "law.go:284", after := #[{ on := 4, ground := Ground.data }, { on := 5, ground := Ground.data }, { on := 7, ground := Ground.data }, { on := 7, ground := Ground.chain }], guard := none }) rfl (fun K hK => ?_) AllReadyH.nil
              go_simp
              go_at_call 15
              (with_reducible refine (CB.out _ _ _ _ _ _ HF10.out).mono ?_)
              rintro e w10 ⟨q2, tx2, A9, n9, c9, A10, n10, c10, rfl, H10⟩
              have hs := HSg.out w10 H10.out.2.2.1
              refine hK.out _ _ hs (fun hHeld2 => ?_)
              clear hHeld
              have hHeld := hHeld2
              clear hHeld2 hK K
              (try simp only [Act.put, List.setIfInBounds_toArray, List.set_cons_zero, List.set_cons_succ])
              refine wpAnyH_take (i := 9) (oi := { dst := some 83, op := Op.move (Operand.tmp 92), type := 41, pos := "law.go:284", after := #[{ on := 8, ground := Ground.data }], guard := none }) (v := ?_) rfl (by kernel_rfl) (by kernel_rfl) (by kernel_rfl) (fun _ _ _ h => h) (Or.inl ⟨by rfl, ?_⟩) hHeld ?_
              rotate_left
              · intro w hSw; (try dsimp only at hSw); (try go_split_ands); go_simp; (first | done | with_reducible rfl)
              (try simp only [Act.put, List.setIfInBounds_toArray, List.set_cons_zero, List.set_cons_succ])
              refine wpAnyH_take (i := 10) (oi := { dst := some 93, op := Op.extract (Operand.tmp 83) 0, type := 39, pos := "law.go:284", after := #[{ on := 9, ground := Ground.data }], guard := none }) (v := ?_) rfl (by kernel_rfl) (by kernel_rfl) (by kernel_rfl) (fun _ _ _ h => h) (Or.inl ⟨by rfl, ?_⟩) hHeld ?_
              rotate_left
              · intro w hSw; (try dsimp only at hSw); (try go_split_ands); go_simp; (first | done | with_reducible rfl)
              (try simp only [Act.put, List.setIfInBounds_toArray, List.set_cons_zero, List.set_cons_succ])
              refine wpAnyH_take (i := 11) (oi := { dst := some 94, op := Op.extract (Operand.tmp 83) 1, type := 30, pos := "law.go:284", after := #[{ on := 9, ground := Ground.data }, { on := 13, ground := Ground.gcOnly Departure.lateStores }], guard := none }) (v := ?_) rfl (by kernel_rfl) (by kernel_rfl) (by kernel_rfl) (fun _ _ _ h => h) (Or.inl ⟨by rfl, ?_⟩) hHeld ?_
              rotate_left
              · intro w hSw; (try dsimp only at hSw); (try go_split_ands); go_simp; (first | done | with_reducible rfl)
              (try simp only [Act.put, List.setIfInBounds_toArray, List.set_cons_zero, List.set_cons_succ])
              have HBq := Lib.hid (H10.out.2.2.2 _ _ _ (HF10.out.ans _ rfl).2 (HF10.out.ans _ rfl).1)
              have hbq := (HF10.out.ans _ rfl).2
              refine wpAnyH_ready (rs := [13]) (by kernel_rfl) (by simp) ?_
              refine AllReadyH.cons (o := { dst := none, op := Op.store 39 (Operand.tmp 16) (Operand.tmp 93), type := 0, pos := "law.go:284", after := #[{ on := 12, ground := Ground.data }, { on := 10, ground := Ground.data }, { on := 8, ground := Ground.chain }, { on := 0, ground := Ground.phase }, { on := 1, ground := Ground.phase }, { on := 2, ground := Ground.phase }, { on := 3, ground := Ground.phase }, { on := 4, ground := Ground.phase }, { on := 5, ground := Ground.phase }, { on := 6, ground := Ground.phase }, { on := 7, ground := Ground.phase }, { on := 8, ground := Ground.phase }, { on := 9, ground := Ground.phase }, { on := 10, ground := Ground.phase }, { on := 11, ground := Ground.textOnly Departure.lateStores }, { on := 12, ground := Ground.phase }], guard := none }) rfl (fun K hK => ?_) AllReadyH.nil
              obtain ⟨z0, z1, z2, z3, z4, z5, z6, z7⟩ := ans_cells HBq.out
              go_simp
              have hs := HSp.out w10 _ (.int .i64 q2) (.string tx2) (.slice A9 n9 c9) (.slice A10 n10 c10) hHeld hbq
              refine hK.out _ _ hs (fun hHeld2 => ?_)
              clear hHeld
              have hHeld := hHeld2
              clear hHeld2 hK K
              (try simp only [Act.put, List.setIfInBounds_toArray, List.set_cons_zero, List.set_cons_succ])
              refine wpAnyH_take (i := 14) (oi := { dst := some 17, op := Op.assign (Operand.tmp 94), type := 30, pos := "law.go:284", after := #[{ on := 11, ground := Ground.data }, { on := 13, ground := Ground.chain }, { on := 0, ground := Ground.phase }, { on := 1, ground := Ground.phase }, { on := 2, ground := Ground.phase }, { on := 3, ground := Ground.phase }, { on := 4, ground := Ground.phase }, { on := 5, ground := Ground.phase }, { on := 6, ground := Ground.phase }, { on := 7, ground := Ground.phase }, { on := 8, ground := Ground.phase }, { on := 9, ground := Ground.phase }, { on := 10, ground := Ground.phase }, { on := 11, ground := Ground.phase }, { on := 12, ground := Ground.phase }, { on := 13, ground := Ground.phase }], guard := none }) (v := ?_) rfl (by kernel_rfl) (by kernel_rfl) (by kernel_rfl) (fun _ _ _ h => h) (Or.inl ⟨by rfl, ?_⟩) hHeld ?_
              rotate_left
              · intro w hSw; (try dsimp only at hSw); (try go_split_ands); go_simp; (first | done | with_reducible rfl)
              (try simp only [Act.put, List.setIfInBounds_toArray, List.set_cons_zero, List.set_cons_succ])
              refine wpAnyH_done (by kernel_rfl) ?_ _
              refine NoPanic.normal ?_
              go_wp2_with fail
              go_meet
              exact ⟨_, q2, tx2, A9, n9, c9, A10, n10, c10, rfl, rfl, Lib.hid (fin2_put hbq H10.out.1 H10.out.2.1 H10.out.2.2.1 HBq.out)⟩
          · go_simp
            obtain ⟨wz11, hz11⟩ : ∃ wz, wz = wm1.alloc (.cells #[.int .i64 0, .string ⟨#[]⟩, .slice none 0 0, .slice none 0 0] 39) := ⟨_, rfl⟩
            rw [← hz11]
            have HF11 := Lib.hid (HF1.out.room' (q := wm1.heap.size) rfl hz11)
            clear hz11
            have hs := HSf.out _ HF11.out.bel
            refine hK.out _ _ hs (fun hHeld2 => ?_)
            clear hHeld
            have hHeld := hHeld2
            clear hHeld2 hK K
            (try simp only [Act.put, List.setIfInBounds_toArray, List.set_cons_zero, List.set_cons_succ])
            refine wpAnyH_ready (rs := [2]) (by kernel_rfl) (by simp) ?_
            refine AllReadyH.cons (o := { dst := some 86, op := Op.call { callee := Callee.builtin Builtin.append, args := #[Operand.tmp 84, Operand.tmp 85], argTypes := #[22, 22] }, type := 22, pos := "law.go:284", after := #[{ on := 0, ground := Ground.data }, { on := 1, ground := Ground.data }], guard := none }) rfl (fun K hK => ?_) AllReadyH.nil
            refine step_app_r _ (by rfl) (.tmp 84) (.tmp 85) (by rfl) w8.heap.size _ [] (by rfl) (HF11.out.own _ _ rfl) Aa na ca a (by rfl) (HA.out.below (HP8.out.trans (HF11.out.bel.mono HP8.out.size))) (by simp; omega) HF11.out.bel.size ?_
            intro va12 wa12 ha0 ha1 ha2
            have HF12 := Lib.hid (HF11.out.ap ha0 ha1)
            clear ha0 ha1 ha2
            have hs := HSf.out _ HF12.out.bel
            refine hK.out _ _ hs (fun hHeld2 => ?_)
            clear hHeld
            have hHeld := hHeld2
            clear hHeld2 hK K
            (try simp only [Act.put, List.setIfInBounds_toArray, List.set_cons_zero, List.set_cons_succ])
            refine wpAnyH_ready (rs := [4]) (by kernel_rfl) (by simp) ?_
            refine AllReadyH.cons (o := { dst := some 88, op := Op.call { callee := Callee.builtin Builtin.append, args := #[Operand.tmp 86, Operand.tmp 87], argTypes := #[22, 22] }, type := 22, pos := "law.go:284", after := #[{ on := 2, ground := Ground.data }, { on := 3, ground := Ground.data }, { on := 2, ground := Ground.chain }], guard := none }) rfl (fun K hK => ?_) AllReadyH.nil
            refine step_app_r _ (by rfl) (.tmp 86) (.tmp 87) (by rfl) w8.heap.size _ ([] ++ a) (by rfl) (HF12.out.own _ _ rfl) Ab nb cb b (by rfl) (HBl.out.below (HP8.out.trans (HF12.out.bel.mono HP8.out.size))) (by have := HA.out.1; simp; omega) HF12.out.bel.size ?_
            intro va13 wa13 ha0 ha1 ha2
            have HF13 := Lib.hid (HF12.out.ap ha0 ha1)
            clear ha0 ha1 ha2
            obtain ⟨Av13, cv13, hv13⟩ := (HF13.out.own _ _ rfl).form
            rw [HMl.out] at hv13
            subst hv13
            have hs := HSf.out _ HF13.out.bel
            refine hK.out _ _ hs (fun hHeld2 => ?_)
            clear hHeld
            have hHeld := hHeld2
            clear hHeld2 hK K
            (try simp only [Act.put, List.setIfInBounds_toArray, List.set_cons_zero, List.set_cons_succ])
            refine wpAnyH_ready (rs := [7]) (by kernel_rfl) (by simp) ?_
            refine AllReadyH.cons (o := { dst := some 91, op := Op.call { callee := Callee.value (Operand.tmp 90), args := #[Operand.tmp 12], argTypes := #[36] }, type := 37, pos := "law.go:284", after := #[{ on := 6, ground := Ground.data }, { on := 4, ground := Ground.chain }], guard := none }) rfl (fun K hK => ?_) AllReadyH.nil
            go_simp
            (with_reducible refine (cntMk' (n0 + 1) (w.heap.size + 1 + 1) _).mono ?_)
            rintro e wx14 ⟨pf14, rfl, hx14⟩
            have HF14 := Lib.hid (HF13.out.mkf' hx14.out.1 hx14.out.2)
            clear hx14
            have hs := HSf.out _ HF14.out.bel
            refine hK.out _ _ hs (fun hHeld2 => ?_)
            clear hHeld
            have hHeld := hHeld2
            clear hHeld2 hK K
            (try simp only [Act.put, List.setIfInBounds_toArray, List.set_cons_zero, List.set_cons_succ])
            refine wpAnyH_ready (rs := [8]) (by kernel_rfl) (by simp) ?_
            refine AllReadyH.cons (o := { dst := some 92, op := Op.call { callee := Callee.value (Operand.func 15), args := #[Operand.tmp 88, Operand.tmp 89, Operand.tmp 91], argTypes := #[22, 26, 37] }, type := 41, pos := "law.go:284", after := #[{ on := 4, ground := Ground.data }, { on := 5, ground := Ground.data }, { on := 7, ground := Ground.data }, { on := 7, ground := Ground.chain }], guard := none }) rfl (fun K hK => ?_) AllReadyH.nil
            go_simp
            go_at_call 15
            (with_reducible refine (CB.out _ _ _ _ _ _ HF14.out).mono ?_)
            rintro e w10 ⟨q2, tx2, A9, n9, c9, A10, n10, c10, rfl, H10⟩
            have hs := HSg.out w10 H10.out.2.2.1
            refine hK.out _ _ hs (fun hHeld2 => ?_)
            clear hHeld
            have hHeld := hHeld2
            clear hHeld2 hK K
            (try simp only [Act.put, List.setIfInBounds_toArray, List.set_cons_zero, List.set_cons_succ])
            refine wpAnyH_take (i := 9) (oi := { dst := some 83, op := Op.move (Operand.tmp 92), type := 41, pos := "law.go:284", after := #[{ on := 8, ground := Ground.data }], guard := none }) (v := ?_) rfl (by kernel_rfl) (by kernel_rfl) (by kernel_rfl) (fun _ _ _ h => h) (Or.inl ⟨by rfl, ?_⟩) hHeld ?_
            rotate_left
            · intro w hSw; (try dsimp only at hSw); (try go_split_ands); go_simp; (first | done | with_reducible rfl)
            (try simp only [Act.put, List.setIfInBounds_toArray, List.set_cons_zero, List.set_cons_succ])
            refine wpAnyH_take (i := 10) (oi := { dst := some 93, op := Op.extract (Operand.tmp 83) 0, type := 39, pos := "law.go:284", after := #[{ on := 9, ground := Ground.data }], guard := none }) (v := ?_) rfl (by kernel_rfl) (by kernel_rfl) (by kernel_rfl) (fun _ _ _ h => h) (Or.inl ⟨by rfl, ?_⟩) hHeld ?_
            rotate_left
            · intro w hSw; (try dsimp only at hSw); (try go_split_ands); go_simp; (first | done | with_reducible rfl)
            (try simp only [Act.put, List.setIfInBounds_toArray, List.set_cons_zero, List.set_cons_succ])
            refine wpAnyH_take (i := 11) (oi := { dst := some 94, op := Op.extract (Operand.tmp 83) 1, type := 30, pos := "law.go:284", after := #[{ on := 9, ground := Ground.data }, { on := 13, ground := Ground.gcOnly Departure.lateStores }], guard := none }) (v := ?_) rfl (by kernel_rfl) (by kernel_rfl) (by kernel_rfl) (fun _ _ _ h => h) (Or.inl ⟨by rfl, ?_⟩) hHeld ?_
            rotate_left
            · intro w hSw; (try dsimp only at hSw); (try go_split_ands); go_simp; (first | done | with_reducible rfl)
            (try simp only [Act.put, List.setIfInBounds_toArray, List.set_cons_zero, List.set_cons_succ])
            have HBq := Lib.hid (H10.out.2.2.2 _ _ _ (HF14.out.ans _ rfl).2 (HF14.out.ans _ rfl).1)
            have hbq := (HF14.out.ans _ rfl).2
            refine wpAnyH_ready (rs := [13]) (by kernel_rfl) (by simp) ?_
            refine AllReadyH.cons (o := { dst := none, op := Op.store 39 (Operand.tmp 16) (Operand.tmp 93), type := 0, pos := "law.go:284", after := #[{ on := 12, ground := Ground.data }, { on := 10, ground := Ground.data }, { on := 8, ground := Ground.chain }, { on := 0, ground := Ground.phase }, { on := 1, ground := Ground.phase }, { on := 2, ground := Ground.phase }, { on := 3, ground := Ground.phase }, { on := 4, ground := Ground.phase }, { on := 5, ground := Ground.phase }, { on := 6, ground := Ground.phase }, { on := 7, ground := Ground.phase }, { on := 8, ground := Ground.phase }, { on := 9, ground := Ground.phase }, { on := 10, ground := Ground.phase }, { on := 11, ground := Ground.textOnly Departure.lateStores }, { on := 12, ground := Ground.phase }], guard := none }) rfl (fun K hK => ?_) AllReadyH.nil
            obtain ⟨z0, z1, z2, z3, z4, z5, z6, z7⟩ := ans_cells HBq.out
            go_simp
            have hs := HSp.out w10 _ (.int .i64 q2) (.string tx2) (.slice A9 n9 c9) (.slice A10 n10 c10) hHeld hbq
            refine hK.out _ _ hs (fun hHeld2 => ?_)
            clear hHeld
            have hHeld := hHeld2
            clear hHeld2 hK K
            (try simp only [Act.put, List.setIfInBounds_toArray, List.set_cons_zero, List.set_cons_succ])
            refine wpAnyH_take (i := 14) (oi := { dst := some 17, op := Op.assign (Operand.tmp 94), type := 30, pos := "law.go:284", after := #[{ on := 11, ground := Ground.data }, { on := 13, ground := Ground.chain }, { on := 0, ground := Ground.phase }, { on := 1, ground := Ground.phase }, { on := 2, ground := Ground.phase }, { on := 3, ground := Ground.phase }, { on := 4, ground := Ground.phase }, { on := 5, ground := Ground.phase }, { on := 6, ground := Ground.phase }, { on := 7, ground := Ground.phase }, { on := 8, ground := Ground.phase }, { on := 9, ground := Ground.phase }, { on := 10, ground := Ground.phase }, { on := 11, ground := Ground.phase }, { on := 12, ground := Ground.phase }, { on := 13, ground := Ground.phase }], guard := none }) (v := ?_) rfl (by kernel_rfl) (by kernel_rfl) (by kernel_rfl) (fun _ _ _ h => h) (Or.inl ⟨by rfl, ?_⟩) hHeld ?_
            rotate_left
            · intro w hSw; (try dsimp only at hSw); (try go_split_ands); go_simp; (first | done | with_reducible rfl)
            (try simp only [Act.put, List.setIfInBounds_toArray, List.set_cons_zero, List.set_cons_succ])
            refine wpAnyH_done (by kernel_rfl) ?_ _
            refine NoPanic.normal ?_
            go_wp2_with fail
            go_meet
            exact ⟨_, q2, tx2, A9, n9, c9, A10, n10, c10, rfl, rfl, Lib.hid (fin2_put hbq H10.out.1 H10.out.2.1 H10.out.2.2.1 HBq.out)⟩
        · go_simp
          obtain ⟨wz15, hz15⟩ : ∃ wz, wz = (w8.alloc (.cells #[.int .i64 0, .string ⟨#[]⟩, .slice none 0 0, .slice none 0 0] 39)).drew := ⟨_, rfl⟩
          rw [← hz15]
          have HF15 := Lib.hid (HF0.out.room' (q := w8.heap.size) rfl hz15)
          clear hz15
          have hs := HSf.out _ HF15.out.bel
          refine hK.out _ _ hs (fun hHeld2 => ?_)
          clear hHeld
          have hHeld := hHeld2
          clear hHeld2 hK K
          (try simp only [Act.put, List.setIfInBounds_toArray, List.set_cons_zero, List.set_cons_succ])
          refine wpAnyH_ready (rs := [0]) (by kernel_rfl) (by simp) ?_
          refine AllReadyH.cons (o := { dst := some 84, op := Op.makeSlice 22 (Operand.const (Value.int IntKind.i64 0)) (Operand.const (Value.int IntKind.i64 80)), type := 22, pos := "law.go:284", after := #[], guard := none }) rfl (fun K hK => ?_) AllReadyH.nil
          refine step_mk_r _ (by rfl) (by rfl) ?_
          intro wm16 hm0 hm1
          have HF16 := Lib.hid (HF15.out.made hm0 hm1)
          clear hm0 hm1
          have hs := HSf.out _ HF16.out.bel
          refine hK.out _ _ hs (fun hHeld2 => ?_)
          clear hHeld
          have hHeld := hHeld2
          clear hHeld2 hK K
          (try simp only [Act.put, List.setIfInBounds_toArray, List.set_cons_zero, List.set_cons_succ])
          refine wpAnyH_ready (rs := [2]) (by kernel_rfl) (by simp) ?_
          refine AllReadyH.cons (o := { dst := some 86, op := Op.call { callee := Callee.builtin Builtin.append, args := #[Operand.tmp 84, Operand.tmp 85], argTypes := #[22, 22] }, type := 22, pos := "law.go:284", after := #[{ on := 0, ground := Ground.data }, { on := 1, ground := Ground.data }], guard := none }) rfl (fun K hK => ?_) AllReadyH.nil
          refine step_app_r _ (by rfl) (.tmp 84) (.tmp 85) (by rfl) w8.heap.size _ [] (by rfl) (HF16.out.own _ _ rfl) Aa na ca a (by rfl) (HA.out.below (HP8.out.trans (HF16.out.bel.mono HP8.out.size))) (by simp; omega) HF16.out.bel.size ?_
          intro va17 wa17 ha0 ha1 ha2
          have HF17 := Lib.hid (HF16.out.ap ha0 ha1)
          clear ha0 ha1 ha2
          have hs := HSf.out _ HF17.out.bel
          refine hK.out _ _ hs (fun hHeld2 => ?_)
          clear hHeld
          have hHeld := hHeld2
          clear hHeld2 hK K
          (try simp only [Act.put, List.setIfInBounds_toArray, List.set_cons_zero, List.set_cons_succ])
          refine wpAnyH_ready (rs := [4]) (by kernel_rfl) (by simp) ?_
          refine AllReadyH.cons (o := { dst := some 88, op := Op.call { callee := Callee.builtin Builtin.append, args := #[Operand.tmp 86, Operand.tmp 87], argTypes := #[22, 22] }, type := 22, pos := "law.go:284", after := #[{ on := 2, ground := Ground.data }, { on := 3, ground := Ground.data }, { on := 2, ground := Ground.chain }], guard := none }) rfl (fun K hK => ?_) AllReadyH.nil
          refine step_app_r _ (by rfl) (.tmp 86) (.tmp 87) (by rfl) w8.heap.size _ ([] ++ a) (by rfl) (HF17.out.own _ _ rfl) Ab nb cb b (by rfl) (HBl.out.below (HP8.out.trans (HF17.out.bel.mono HP8.out.size))) (by have := HA.out.1; simp; omega) HF17.out.bel.size ?_
          intro va18 wa18 ha0 ha1 ha2
          have HF18 := Lib.hid (HF17.out.ap ha0 ha1)
          clear ha0 ha1 ha2
          obtain ⟨Av18, cv18, hv18⟩ := (HF18.out.own _ _ rfl).form
          rw [HMl.out] at hv18
          subst hv18
          have hs := HSf.out _ HF18.out.bel
          refine hK.out _ _ hs (fun hHeld2 => ?_)
          clear hHeld
          have hHeld := hHeld2
          clear hHeld2 hK K
          (try simp only [Act.put, List.setIfInBounds_toArray, List.set_cons_zero, List.set_cons_succ])
          refine wpAnyH_ready (rs := [7]) (by kernel_rfl) (by simp) ?_
          refine AllReadyH.cons (o := { dst := some 91, op := Op.call { callee := Callee.value (Operand.tmp 90), args := #[Operand.tmp 12], argTypes := #[36] }, type := 37, pos := "law.go:284", after := #[{ on := 6, ground := Ground.data }, { on := 4, ground := Ground.chain }], guard := none }) rfl (fun K hK => ?_) AllReadyH.nil
          go_simp
          (with_reducible refine (cntMk' (n0 + 1) (w.heap.size + 1 + 1) _).mono ?_)
          rintro e wx19 ⟨pf19, rfl, hx19⟩
          have HF19 := Lib.hid (HF18.out.mkf' hx19.out.1 hx19.out.2)
          clear hx19
          have hs := HSf.out _ HF19.out.bel
          refine hK.out _ _ hs (fun hHeld2 => ?_)
          clear hHeld
          have hHeld := hHeld2
          clear hHeld2 hK K
          (try simp only [Act.put, List.setIfInBounds_toArray, List.set_cons_zero, List.set_cons_succ])
          refine wpAnyH_ready (rs := [8]) (by kernel_rfl) (by simp) ?_
          refine AllReadyH.cons (o := { dst := some 92, op := Op.call { callee := Callee.value (Operand.func 15), args := #[Operand.tmp 88, Operand.tmp 89, Operand.tmp 91], argTypes := #[22, 26, 37] }, type := 41, pos := "law.go:284", after := #[{ on := 4, ground := Ground.data }, { on := 5, ground := Ground.data }, { on := 7, ground := Ground.data }, { on := 7, ground := Ground.chain }], guard := none }) rfl (fun K hK => ?_) AllReadyH.nil
          go_simp
          go_at_call 15
          (with_reducible refine (CB.out _ _ _ _ _ _ HF19.out).mono ?_)
          rintro e w10 ⟨q2, tx2, A9, n9, c9, A10, n10, c10, rfl, H10⟩
          have hs := HSg.out w10 H10.out.2.2.1
          refine hK.out _ _ hs (fun hHeld2 => ?_)
          clear hHeld
          have hHeld := hHeld2
          clear hHeld2 hK K
          (try simp only [Act.put, List.setIfInBounds_toArray, List.set_cons_zero, List.set_cons_succ])
          refine wpAnyH_take (i := 9) (oi := { dst := some 83, op := Op.move (Operand.tmp 92), type := 41, pos := "law.go:284", after := #[{ on := 8, ground := Ground.data }], guard := none }) (v := ?_) rfl (by kernel_rfl) (by kernel_rfl) (by kernel_rfl) (fun _ _ _ h => h) (Or.inl ⟨by rfl, ?_⟩) hHeld ?_
          rotate_left
          · intro w hSw; (try dsimp only at hSw); (try go_split_ands); go_simp; (first | done | with_reducible rfl)
          (try simp only [Act.put, List.setIfInBounds_toArray, List.set_cons_zero, List.set_cons_succ])
          refine wpAnyH_take (i := 10) (oi := { dst := some 93, op := Op.extract (Operand.tmp 83) 0, type := 39, pos := "law.go:284", after := #[{ on := 9, ground := Ground.data }], guard := none }) (v := ?_) rfl (by kernel_rfl) (by kernel_rfl) (by kernel_rfl) (fun _ _ _ h => h) (Or.inl ⟨by rfl, ?_⟩) hHeld ?_
          rotate_left
          · intro w hSw; (try dsimp only at hSw); (try go_split_ands); go_simp; (first | done | with_reducible rfl)
          (try simp only [Act.put, List.setIfInBounds_toArray, List.set_cons_zero, List.set_cons_succ])
          refine wpAnyH_take (i := 11) (oi := { dst := some 94, op := Op.extract (Operand.tmp 83) 1, type := 30, pos := "law.go:284", after := #[{ on := 9, ground := Ground.data }, { on := 13, ground := Ground.gcOnly Departure.lateStores }], guard := none }) (v := ?_) rfl (by kernel_rfl) (by kernel_rfl) (by kernel_rfl) (fun _ _ _ h => h) (Or.inl ⟨by rfl, ?_⟩) hHeld ?_
          rotate_left
          · intro w hSw; (try dsimp only at hSw); (try go_split_ands); go_simp; (first | done | with_reducible rfl)
          (try simp only [Act.put, List.setIfInBounds_toArray, List.set_cons_zero, List.set_cons_succ])
          have HBq := Lib.hid (H10.out.2.2.2 _ _ _ (HF19.out.ans _ rfl).2 (HF19.out.ans _ rfl).1)
          have hbq := (HF19.out.ans _ rfl).2
          refine wpAnyH_ready (rs := [13]) (by kernel_rfl) (by simp) ?_
          refine AllReadyH.cons (o := { dst := none, op := Op.store 39 (Operand.tmp 16) (Operand.tmp 93), type := 0, pos := "law.go:284", after := #[{ on := 12, ground := Ground.data }, { on := 10, ground := Ground.data }, { on := 8, ground := Ground.chain }, { on := 0, ground := Ground.phase }, { on := 1, ground := Ground.phase }, { on := 2, ground := Ground.phase }, { on := 3, ground := Ground.phase }, { on := 4, ground := Ground.phase }, { on := 5, ground := Ground.phase }, { on := 6, ground := Ground.phase }, { on := 7, ground := Ground.phase }, { on := 8, ground := Ground.phase }, { on := 9, ground := Ground.phase }, { on := 10, ground := Ground.phase }, { on := 11, ground := Ground.textOnly Departure.lateStores }, { on := 12, ground := Ground.phase }], guard := none }) rfl (fun K hK => ?_) AllReadyH.nil
          obtain ⟨z0, z1, z2, z3, z4, z5, z6, z7⟩ := ans_cells HBq.out
          go_simp
          have hs := HSp.out w10 _ (.int .i64 q2) (.string tx2) (.slice A9 n9 c9) (.slice A10 n10 c10) hHeld hbq
          refine hK.out _ _ hs (fun hHeld2 => ?_)
          clear hHeld
          have hHeld := hHeld2
          clear hHeld2 hK K
          (try simp only [Act.put, List.setIfInBounds_toArray, List.set_cons_zero, List.set_cons_succ])
          refine wpAnyH_take (i := 14) (oi := { dst := some 17, op := Op.assign (Operand.tmp 94), type := 30, pos := "law.go:284", after := #[{ on := 11, ground := Ground.data }, { on := 13, ground := Ground.chain }, { on := 0, ground := Ground.phase }, { on := 1, ground := Ground.phase }, { on := 2, ground := Ground.phase }, { on := 3, ground := Ground.phase }, { on := 4, ground := Ground.phase }, { on := 5, ground := Ground.phase }, { on := 6, ground := Ground.phase }, { on := 7, ground := Ground.phase }, { on := 8, ground := Ground.phase }, { on := 9, ground := Ground.phase }, { on := 10, ground := Ground.phase }, { on := 11, ground := Ground.phase }, { on := 12, ground := Ground.phase }, { on := 13, ground := Ground.phase }], guard := none }) (v := ?_) rfl (by kernel_rfl) (by kernel_rfl) (by kernel_rfl) (fun _ _ _ h => h) (Or.inl ⟨by rfl, ?_⟩) hHeld ?_
          rotate_left
          · intro w hSw; (try dsimp only at hSw); (try go_split_ands); go_simp; (first | done | with_reducible rfl)
          (try simp only [Act.put, List.setIfInBounds_toArray, List.set_cons_zero, List.set_cons_succ])
          refine wpAnyH_done (by kernel_rfl) ?_ _
          refine NoPanic.normal ?_
          go_wp2_with fail
          go_meet
          exact ⟨_, q2, tx2, A9, n9, c9, A10, n10, c10, rfl, rfl, Lib.hid (fin2_put hbq H10.out.1 H10.out.2.1 H10.out.2.2.1 HBq.out)⟩
      case rest =>
        obtain ⟨g6, q2, t2, A9, n9, c9, A10, n10, c10, rfl, rfl, HFn⟩ := hcut
        obtain ⟨f1, f2, f3, f4, f5⟩ := HFn.out
        have f4 : Blk wc (n0 + 1) 3 #[.int .i64 Y2.2] := f4
        have hO := HO8.out.grown f5 (show some n0 ≠ some (n0 + 1) by simp)
        have hP := HPA.out.grown f5 (show some PA ≠ some (n0 + 1) by have := HPn.out; simp; omega)
        have hBc := HP8.out.grown f5 HP8.out.size (fun i e => by injection e with e; have := HNe.out; omega)
        obtain ⟨hv1, bv1, e1, g1, _, g3, _⟩ := HY8.out
        simp at e1
        obtain ⟨e1a, e1b, rfl, rfl⟩ := e1
        obtain ⟨hv2, bv2, e2, r1, _, r3, _⟩ := f3
        simp at e2
        obtain ⟨e2a, e2b, rfl, rfl⟩ := e2
        have g1c := g1.grown f5 (g1.apart HT8.out)
        have hsim := two_lists a b (cntF code) x 0
        rw [HXp.out, HY2.out] at hsim
        obtain ⟨⟨hc1, hc2⟩, hc3⟩ := hsim
        rw [hc1] at e1a
        rw [hc2] at g1c g3
        rw [hc3] at hO
        have hr1 := Hw.hr g1c
        have hr2 := Hw.hr r1
        obtain rfl : n6 = n9 := hr1.1.symm.trans hr2.1
        have hqq : q = q2 := e1a.trans e2a.symm
        subst hqq
        have HSm := Lib.hid (sameHeaders_yes A6 A9 n6 c6 c9 Y2.1.hs wc (by have := hr1.1; omega) hr1 hr2)
        have HBc := Lib.hid hBc
        have x0 : wc.cell? ⟨n0, 0, none⟩ = some (.int .i64 Y2.2) := hO.cell 0
        have x1 : wc.cell? ⟨n0 + 1, 0, none⟩ = some (.int .i64 Y2.2) := f4.cell 0
        have x2 : wc.cell? ⟨PA, 0, none⟩ = some (.int .i64 q) := hP.cell 0
        have x3 : wc.cell? ⟨PA, 2, none⟩ = some (.slice A6 n6 c6) := hP.cell 2
        have x4 : wc.cell? ⟨g6, 0, none⟩ = some (.int .i64 q) := f2.cell 0
        have x5 : wc.cell? ⟨g6, 2, none⟩ = some (.slice A9 n6 c9) := f2.cell 2
        clear f1 f2 f4 f5 hO hP hBc e1a e1b e2a e2b g1 g3 r1 r3 g1c hc1 hc2 hc3 hr1 hr2
        generalize Y2.2 = z2 at x0 x1
        go_wp2_with fail
        refine HSm.out.mono ?_
        rintro e wd ⟨rfl, gd⟩
        have HBd := Lib.hid (HBc.out.trans (gd.mono HBc.out.size))
        clear gd
        go_wp2
        go_ret
        exact ⟨rfl, HBd.out⟩
end Go.Proofs.YthokfopeddaiiaaGreatDoor
