/-
  Contract: head.split: the walk.
-/
import Derived.Test.YtkpppjhbmnfmkaaGreatDoorJm
import Derived.Laws.EntriesVeiled
set_option linter.unusedSimpArgs false
set_option linter.unusedVariables false
namespace Go.Proofs.YtkpppjhbmnfmkaaGreatDoor.H6
open Go.RowKit Go.Own Go.Own.Hd Go.Own.Fn Go.WideShapes
attribute [local go_sem ↓] Go.wp_at_zero Go.wp_at_succ
variable {σ : Type}
set_option maxHeartbeats 8000000 in
set_option maxRecDepth 100000 in
theorem split_any (g : Nat) (T : TypeId) (cells : σ → Array Value) (rs : List (RuleF σ × Value)) (s0 : σ) (A : Option Addr) (n c : Nat) (l : List HdrV) (mb nb : Nat) (w : World) {e1 e2 e3 : Addr} (he : EnvH w e1 e2 e3) (hc : SpC w g mb A n) (hn : n ≤ 100000) (hnc : n ≤ c)
    (hr : Hr w A n l) (hz : Szs l) (hst : Blk w g T (cells s0)) (hm : RM w mb nb rs) (hf : RF g T cells rs w) (hnd : (rs.map (·.1.name)).Nodup) :
    Calls Tryz.prog 90 #[.slice A n c, .map (some mb)] w (SplitPost g T cells w (openS (rs.map (·.1)) l s0)) := by
  have HJ0 := Lib.hid (SpJ.start hc hst hm hr (s0 := s0) (rs := rs))
  have HE := Lib.hid he
  have HC := Lib.hid hc
  have HZ := Lib.hid hz
  have HF := Lib.hid hf
  have HL := Lib.hid hr.1
  have HND := Lib.hid hnd
  have HR := Lib.hid hr
  clear he hc hz hf hr hst hm hnd
  have hmm := @run_mkMap Tryz.prog
  go_enter Tryz.func90, Tryz.ntmps90
  go_wp2
  go_loopw [7] (fun i wr => ∃ k : Nat, k ≤ n ∧ i = .int .i64 (k : Int) ∧ Hid (∃ s, SpJ w g T cells rs A n l mb nb s0 k s wr)) (fun i _ => n - (intOf i).toNat)
  case atStart => exact ⟨0, Nat.zero_le _, rfl, Lib.hid ⟨s0, HJ0.out⟩⟩
  case round =>
    obtain ⟨k, hk, rfl, hh⟩ := hrel
    obtain ⟨s, hj⟩ := hh.out
    have HJ := Lib.hid hj
    clear hj hh hmm
    by_cases hlt : k < n
    · obtain ⟨ad, rfl, a0, a1, a2⟩ := HJ.out.hr.at_ hlt
      obtain ⟨s1, s2⟩ := HZ.out.at_ k
      obtain ⟨x, hx⟩ : ∃ x, l.getD k ⟨⟨#[]⟩, ⟨#[]⟩, false⟩ = x := ⟨_, rfl⟩
      rw [hx] at a0 a1 a2 s1 s2
      have HX := Lib.hid hx
      have hp := fun W => prefix_colon x W
      obtain ⟨cb, hcb⟩ : ∃ cb, colonB x = cb := ⟨_, rfl⟩
      rw [hcb] at hp
      have HP := Lib.hid hp
      have HCB := Lib.hid hcb
      obtain ⟨m, fv, hrun, hrr, hrn⟩ := run_rule HJ.out.rules x.name (by simp only [maxLen]; omega)
      have HRR := Lib.hid hrr
      have HRN := Lib.hid hrn
      have i0 : (0 : Int) ≤ (k : Int) := by omega
      have i1 : (k : Int) < (n : Int) := by omega
      obtain ⟨xn, xv, xb⟩ := x
      simp only at a0 a1 a2 s1 s2 hrun HRR HRN HP
      clear hx hp hcb hrr hrn a2
      rcases cb with _ | _
      · have HThr := Lib.hid (open_through (rs := rs.map (·.1)) (by rw [HL.out]; exact hk) HJ.out.col (.inr (by rw [HX.out]; exact HCB.out)) HJ.out.pre)
        have HE2 := trivial
        clear hrun
        obtain ⟨D, hown, hRD⟩ := HJ.out.rules
        have HOwn := Lib.hid hown
        have HRD := Lib.hid hRD
        clear hown hRD
        go_wp2_with (first | ((with_reducible refine (HP.out _).mono ?_); rintro e w1 ⟨rfl, rfl⟩) | ((with_reducible refine wpList_range_own _ rfl (.tmp 74) 172 rfl 9 170 keyed_str Tryz.underlying172 R6 mb nb D rfl HOwn.out ?_); intro w0 hrg0 hg0 hs0; have HR0 := Lib.hid (And.intro hrg0 (And.intro hg0 hs0)); clear hrg0 hg0 hs0))
        have HJ2 := Lib.hid (HJ.out.other HC.out HR.out (HR0.out.2.1.but _) (show w.heap.size < wr.heap.size from by have h1 := HJ.out.met.lt; omega))
        clear HE2
        go_frame
        obtain ⟨wo, rfl⟩ : ∃ wo : World, wo = wr := ⟨_, rfl⟩
        go_loopw [10] (fun _ wr => Hid (∃ (left : Lit → Bool) (cnt : Nat), wr.ranges Tryz.prog 9 R6 mb wo.heap.size nb D left cnt ∧ SpJ w g T cells rs (some ad) n l mb nb s0 k s wr ∧ ∀ nm r, rs.find? (fun q => q.1.name == nm) = some r → left (lt nm) = false → (!r.1.must || ((l.take k).map nmOf).contains nm) = true)) (fun _ wr => wr.rangeLeft mb wo.heap.size)
        case atStart => exact Lib.hid ⟨_, _, HR0.out.1, HJ2.out, fun nm r hf hl => by
          rw [((HRD.out.2 nm).2 r hf).1] at hl; cases hl⟩
        case round =>
          obtain ⟨left, cnt, hrg, hj2, hgood⟩ := hrel.out
          have HRg := Lib.hid hrg
          have HQ := Lib.hid hj2
          have HGd := Lib.hid hgood
          clear hrel hrg hj2 hgood
          go_wp2_with (with_reducible refine wpList_next_ranges _ rfl (.tmp 75) rfl 9 keyed_str R6 Value.string mkR key_str_inv val_inv mb wo.heap.size nb D left cnt rfl HRg.out ?_ ?_)
          · intro _ hl0
            have HM := Lib.hid (musts_true HND.out (fun nm r hf => HGd.out nm r hf (hl0 _)))
            have HOp := Lib.hid (HThr.out.trans (if_pos HM.out))
            clear hl0
            obtain ⟨A9, hA9, _, hcut⟩ := cut_h HQ.out.hr hk hnc
            obtain ⟨n9, hn9⟩ : ∃ x, n - k = x := ⟨_, rfl⟩
            obtain ⟨c9, hc9⟩ : ∃ x, c - k = x := ⟨_, rfl⟩
            rw [hn9] at hA9 hcut
            rw [hc9] at hcut
            have hn9b : n9 ≤ 100000 := by omega
            have HA9 := Lib.hid (fun W (hW : Below wr.heap.size wr W) => hA9.below hW)
            have HZ9 := Lib.hid (show Szs (l.drop k) from fun h hh => HZ.out h (List.mem_of_mem_drop hh))
            have HT9 := Lib.hid (fun W (hW : Below wr.heap.size wr W) => trailers_any A9 n9 c9 (l.drop k) W ((HQ.out.env HC.out HE.out).below hW (HQ.out.env HC.out HE.out).room) (by omega) (hA9.below hW) HZ9.out)
            have HL9 := Lib.hid hA9.1
            obtain ⟨l9, hl9⟩ : ∃ x, l.drop k = x := ⟨_, rfl⟩
            rw [hl9] at HA9 HT9 HOp HL9
            have HNb := Lib.hid hn9b
            clear hA9 hn9 hc9 hl9 hn9b HRg HZ9
            obtain ⟨b9, hb9⟩ : ∃ b, l9.all plainB = b := ⟨_, rfl⟩
            rw [hb9] at HT9 HOp
            have HD9 := Lib.hid (below_drewN (Below.refl wr.heap.size wr) 1)
            rcases b9 with _ | _
            · go_wp2
              refine wp_region_noPanic ?_
              refine wp_region_held_drew (S := fun _ => True) (by kernel_rfl) trivial (fun hHeld => ?_)
              refine wpAnyH_take (i := 0) (oi := { dst := some 89, op := Op.move (Operand.tmp 0), type := 41, pos := "head.go:78", after := #[], guard := none }) (v := ?_) rfl (by kernel_rfl) (by kernel_rfl) (by kernel_rfl) (fun _ _ _ h => h) (Or.inl ⟨by rfl, ?_⟩) hHeld ?_
              rotate_left
              · intro w hSw; (try dsimp only at hSw); (try go_split_ands); go_simp; (first | done | with_reducible rfl)
              (try simp only [Act.put, List.setIfInBounds_toArray, List.set_cons_zero, List.set_cons_succ])
              refine wpAnyH_take (i := 1) (oi := { dst := some 90, op := Op.move (Operand.tmp 7), type := 3, pos := "head.go:78", after := #[], guard := none }) (v := ?_) rfl (by kernel_rfl) (by kernel_rfl) (by kernel_rfl) (fun _ _ _ h => h) (Or.inl ⟨by rfl, ?_⟩) hHeld ?_
              rotate_left
              · intro w hSw; (try dsimp only at hSw); (try go_split_ands); go_simp; (first | done | with_reducible rfl)
              (try simp only [Act.put, List.setIfInBounds_toArray, List.set_cons_zero, List.set_cons_succ])
              refine wpAnyH_take (i := 2) (oi := { dst := some 91, op := Op.slice 41 (Operand.tmp 89) (some (Operand.tmp 90)) none none, type := 41, pos := "head.go:78", after := #[{ on := 0, ground := Ground.data }, { on := 1, ground := Ground.data }], guard := none }) (v := ?_) rfl (by kernel_rfl) (by kernel_rfl) (by kernel_rfl) (fun _ _ _ h => h) (Or.inl ⟨by rfl, ?_⟩) hHeld ?_
              rotate_left
              · intro w hSw; (try dsimp only at hSw); (try go_split_ands); go_simp; (first | done | with_reducible rfl)
              (try simp only [Act.put, List.setIfInBounds_toArray, List.set_cons_zero, List.set_cons_succ])
              refine wpAnyH_take (i := 4) (oi := { dst := some 93, op := Op.move (Operand.tmp 0), type := 41, pos := "head.go:78", after := #[], guard := none }) (v := ?_) rfl (by kernel_rfl) (by kernel_rfl) (by kernel_rfl) (fun _ _ _ h => h) (Or.inl ⟨by rfl, ?_⟩) hHeld ?_
              rotate_left
              · intro w hSw; (try dsimp only at hSw); (try go_split_ands); go_simp; (first | done | with_reducible rfl)
              (try simp only [Act.put, List.setIfInBounds_toArray, List.set_cons_zero, List.set_cons_succ])
              refine wpAnyH_take (i := 5) (oi := { dst := some 94, op := Op.move (Operand.tmp 7), type := 3, pos := "head.go:78", after := #[], guard := none }) (v := ?_) rfl (by kernel_rfl) (by kernel_rfl) (by kernel_rfl) (fun _ _ _ h => h) (Or.inl ⟨by rfl, ?_⟩) hHeld ?_
              rotate_left
              · intro w hSw; (try dsimp only at hSw); (try go_split_ands); go_simp; (first | done | with_reducible rfl)
              (try simp only [Act.put, List.setIfInBounds_toArray, List.set_cons_zero, List.set_cons_succ])
              refine wpAnyH_take (i := 6) (oi := { dst := some 95, op := Op.slice 41 (Operand.tmp 93) (some (Operand.tmp 94)) none none, type := 41, pos := "head.go:78", after := #[{ on := 4, ground := Ground.data }, { on := 5, ground := Ground.data }], guard := none }) (v := ?_) rfl (by kernel_rfl) (by kernel_rfl) (by kernel_rfl) (fun _ _ _ h => h) (Or.inl ⟨by rfl, ?_⟩) hHeld ?_
              rotate_left
              · intro w hSw; (try dsimp only at hSw); (try go_split_ands); go_simp; (first | done | with_reducible rfl)
              (try simp only [Act.put, List.setIfInBounds_toArray, List.set_cons_zero, List.set_cons_succ])
              refine wpAnyH_ready (rs := [3]) (by kernel_rfl) (by simp) ?_
              refine AllReadyH.cons (o := { dst := some 92, op := Op.call { callee := Callee.builtin Builtin.append, args := #[Operand.const (Value.slice none 0 0), Operand.tmp 91], argTypes := #[41, 41] }, type := 41, pos := "head.go:78", after := #[{ on := 2, ground := Ground.data }], guard := none }) rfl (fun K hK => ?_) AllReadyH.nil
              refine step_app_h _ (by rfl) (.tmp 91) (by rfl) A9 n9 c9 l9 (by rfl) (HA9.out _ HD9.out) HNb.out ?_
              intro A8 c8 wa hwa hba
              have HWa := Lib.hid (And.intro hwa (HD9.out.trans (hba.mono HD9.out.size)))
              clear hwa hba
              refine hK.out _ _ trivial (fun hHeld2 => ?_)
              clear hHeld
              have hHeld := hHeld2
              clear hHeld2 hK K
              (try simp only [Act.put, List.setIfInBounds_toArray, List.set_cons_zero, List.set_cons_succ])
              refine wpAnyH_ready (rs := [7]) (by kernel_rfl) (by simp) ?_
              refine AllReadyH.cons (o := { dst := some 96, op := Op.call { callee := Callee.value (Operand.func 133), args := #[Operand.tmp 95], argTypes := #[41] }, type := 28, pos := "head.go:78", after := #[{ on := 6, ground := Ground.data }, { on := 3, ground := Ground.chain }], guard := none }) rfl (fun K hK => ?_) AllReadyH.nil
              go_simp
              refine (HT9.out _ HWa.out.2).mono ?_
              rintro e wt ⟨rfl, gt⟩
              have HTb := Lib.hid gt
              clear gt
              (try simp only [errH, cond_true, cond_false])
              (try go_simp)
              refine hK.out _ _ trivial (fun hHeld2 => ?_)
              clear hHeld
              have hHeld := hHeld2
              clear hHeld2 hK K
              (try simp only [Act.put, List.setIfInBounds_toArray, List.set_cons_zero, List.set_cons_succ])
              refine wpAnyH_take (i := 8) (oi := { dst := some 97, op := Op.binOp BinOp.eql 28 (Operand.tmp 96) (Operand.const Value.nilIface) 28, type := 4, pos := "head.go:78", after := #[{ on := 7, ground := Ground.data }, { on := 9, ground := Ground.gcOnly Departure.lateStores }], guard := none }) (v := ?_) rfl (by kernel_rfl) (by kernel_rfl) (by kernel_rfl) (fun _ _ _ h => h) (Or.inl ⟨by rfl, ?_⟩) hHeld ?_
              rotate_left
              · intro w hSw; (try dsimp only at hSw); (try go_split_ands); go_simp; (first | done | with_reducible rfl)
              (try simp only [Act.put, List.setIfInBounds_toArray, List.set_cons_zero, List.set_cons_succ])
              refine wpAnyH_take (i := 9) (oi := { dst := some 4, op := Op.assign (Operand.tmp 92), type := 41, pos := "head.go:78", after := #[{ on := 3, ground := Ground.data }, { on := 7, ground := Ground.chain }, { on := 0, ground := Ground.phase }, { on := 1, ground := Ground.phase }, { on := 2, ground := Ground.phase }, { on := 3, ground := Ground.phase }, { on := 4, ground := Ground.textOnly Departure.lateStores }, { on := 5, ground := Ground.textOnly Departure.lateStores }, { on := 6, ground := Ground.textOnly Departure.lateStoresUnsure }, { on := 7, ground := Ground.textOnly Departure.lateStoresUnsure }, { on := 8, ground := Ground.textOnly Departure.lateStores }], guard := none }) (v := ?_) rfl (by kernel_rfl) (by kernel_rfl) (by kernel_rfl) (fun _ _ _ h => h) (Or.inl ⟨by rfl, ?_⟩) hHeld ?_
              rotate_left
              · intro w hSw; (try dsimp only at hSw); (try go_split_ands); go_simp; (first | done | with_reducible rfl)
              (try simp only [Act.put, List.setIfInBounds_toArray, List.set_cons_zero, List.set_cons_succ])
              refine wpAnyH_take (i := 10) (oi := { dst := some 5, op := Op.assign (Operand.tmp 97), type := 4, pos := "head.go:78", after := #[{ on := 8, ground := Ground.data }, { on := 9, ground := Ground.chain }, { on := 0, ground := Ground.phase }, { on := 1, ground := Ground.phase }, { on := 2, ground := Ground.phase }, { on := 3, ground := Ground.phase }, { on := 4, ground := Ground.phase }, { on := 5, ground := Ground.phase }, { on := 6, ground := Ground.phase }, { on := 7, ground := Ground.phase }, { on := 8, ground := Ground.phase }, { on := 9, ground := Ground.phase }], guard := none }) (v := ?_) rfl (by kernel_rfl) (by kernel_rfl) (by kernel_rfl) (fun _ _ _ h => h) (Or.inl ⟨by rfl, ?_⟩) hHeld ?_
              rotate_left
              · intro w hSw; (try dsimp only at hSw); (try go_split_ands); go_simp; (first | done | with_reducible rfl)
              (try simp only [Act.put, List.setIfInBounds_toArray, List.set_cons_zero, List.set_cons_succ])
              refine wpAnyH_done (by kernel_rfl) ?_ _
              refine NoPanic.normal ?_
              have HG9 := Lib.hid ((HQ.out.more (HWa.out.2.trans (HTb.out.mono HWa.out.2.size))).grown)
              have HW9 := Lib.hid (HWa.out.1.below HTb.out)
              have HB9 := Lib.hid ((HQ.out.more (HWa.out.2.trans (HTb.out.mono HWa.out.2.size))).st)
              go_wp2
              go_ret2
              exact ⟨HG9.out, .inl ⟨HOp.out, _, _, _, rfl⟩⟩
            · go_wp2
              refine wp_region_noPanic ?_
              refine wp_region_held_drew (S := fun _ => True) (by kernel_rfl) trivial (fun hHeld => ?_)
              refine wpAnyH_take (i := 0) (oi := { dst := some 89, op := Op.move (Operand.tmp 0), type := 41, pos := "head.go:78", after := #[], guard := none }) (v := ?_) rfl (by kernel_rfl) (by kernel_rfl) (by kernel_rfl) (fun _ _ _ h => h) (Or.inl ⟨by rfl, ?_⟩) hHeld ?_
              rotate_left
              · intro w hSw; (try dsimp only at hSw); (try go_split_ands); go_simp; (first | done | with_reducible rfl)
              (try simp only [Act.put, List.setIfInBounds_toArray, List.set_cons_zero, List.set_cons_succ])
              refine wpAnyH_take (i := 1) (oi := { dst := some 90, op := Op.move (Operand.tmp 7), type := 3, pos := "head.go:78", after := #[], guard := none }) (v := ?_) rfl (by kernel_rfl) (by kernel_rfl) (by kernel_rfl) (fun _ _ _ h => h) (Or.inl ⟨by rfl, ?_⟩) hHeld ?_
              rotate_left
              · intro w hSw; (try dsimp only at hSw); (try go_split_ands); go_simp; (first | done | with_reducible rfl)
              (try simp only [Act.put, List.setIfInBounds_toArray, List.set_cons_zero, List.set_cons_succ])
              refine wpAnyH_take (i := 2) (oi := { dst := some 91, op := Op.slice 41 (Operand.tmp 89) (some (Operand.tmp 90)) none none, type := 41, pos := "head.go:78", after := #[{ on := 0, ground := Ground.data }, { on := 1, ground := Ground.data }], guard := none }) (v := ?_) rfl (by kernel_rfl) (by kernel_rfl) (by kernel_rfl) (fun _ _ _ h => h) (Or.inl ⟨by rfl, ?_⟩) hHeld ?_
              rotate_left
              · intro w hSw; (try dsimp only at hSw); (try go_split_ands); go_simp; (first | done | with_reducible rfl)
              (try simp only [Act.put, List.setIfInBounds_toArray, List.set_cons_zero, List.set_cons_succ])
              refine wpAnyH_take (i := 4) (oi := { dst := some 93, op := Op.move (Operand.tmp 0), type := 41, pos := "head.go:78", after := #[], guard := none }) (v := ?_) rfl (by kernel_rfl) (by kernel_rfl) (by kernel_rfl) (fun _ _ _ h => h) (Or.inl ⟨by rfl, ?_⟩) hHeld ?_
              rotate_left
              · intro w hSw; (try dsimp only at hSw); (try go_split_ands); go_simp; (first | done | with_reducible rfl)
              (try simp only [Act.put, List.setIfInBounds_toArray, List.set_cons_zero, List.set_cons_succ])
              refine wpAnyH_take (i := 5) (oi := { dst := some 94, op := Op.move (Operand.tmp 7), type := 3, pos := "head.go:78", after := #[], guard := none }) (v := ?_) rfl (by kernel_rfl) (by kernel_rfl) (by kernel_rfl) (fun _ _ _ h => h) (Or.inl ⟨by rfl, ?_⟩) hHeld ?_
              rotate_left
              · intro w hSw; (try dsimp only at hSw); (try go_split_ands); go_simp; (first | done | with_reducible rfl)
              (try simp only [Act.put, List.setIfInBounds_toArray, List.set_cons_zero, List.set_cons_succ])
              refine wpAnyH_take (i := 6) (oi := { dst := some 95, op := Op.slice 41 (Operand.tmp 93) (some (Operand.tmp 94)) none none, type := 41, pos := "head.go:78", after := #[{ on := 4, ground := Ground.data }, { on := 5, ground := Ground.data }], guard := none }) (v := ?_) rfl (by kernel_rfl) (by kernel_rfl) (by kernel_rfl) (fun _ _ _ h => h) (Or.inl ⟨by rfl, ?_⟩) hHeld ?_
              rotate_left
              · intro w hSw; (try dsimp only at hSw); (try go_split_ands); go_simp; (first | done | with_reducible rfl)
              (try simp only [Act.put, List.setIfInBounds_toArray, List.set_cons_zero, List.set_cons_succ])
              refine wpAnyH_ready (rs := [3]) (by kernel_rfl) (by simp) ?_
              refine AllReadyH.cons (o := { dst := some 92, op := Op.call { callee := Callee.builtin Builtin.append, args := #[Operand.const (Value.slice none 0 0), Operand.tmp 91], argTypes := #[41, 41] }, type := 41, pos := "head.go:78", after := #[{ on := 2, ground := Ground.data }], guard := none }) rfl (fun K hK => ?_) AllReadyH.nil
              refine step_app_h _ (by rfl) (.tmp 91) (by rfl) A9 n9 c9 l9 (by rfl) (HA9.out _ HD9.out) HNb.out ?_
              intro A8 c8 wa hwa hba
              have HWa := Lib.hid (And.intro hwa (HD9.out.trans (hba.mono HD9.out.size)))
              clear hwa hba
              refine hK.out _ _ trivial (fun hHeld2 => ?_)
              clear hHeld
              have hHeld := hHeld2
              clear hHeld2 hK K
              (try simp only [Act.put, List.setIfInBounds_toArray, List.set_cons_zero, List.set_cons_succ])
              refine wpAnyH_ready (rs := [7]) (by kernel_rfl) (by simp) ?_
              refine AllReadyH.cons (o := { dst := some 96, op := Op.call { callee := Callee.value (Operand.func 133), args := #[Operand.tmp 95], argTypes := #[41] }, type := 28, pos := "head.go:78", after := #[{ on := 6, ground := Ground.data }, { on := 3, ground := Ground.chain }], guard := none }) rfl (fun K hK => ?_) AllReadyH.nil
              go_simp
              refine (HT9.out _ HWa.out.2).mono ?_
              rintro e wt ⟨rfl, gt⟩
              have HTb := Lib.hid gt
              clear gt
              (try simp only [errH, cond_true, cond_false])
              (try go_simp)
              refine hK.out _ _ trivial (fun hHeld2 => ?_)
              clear hHeld
              have hHeld := hHeld2
              clear hHeld2 hK K
              (try simp only [Act.put, List.setIfInBounds_toArray, List.set_cons_zero, List.set_cons_succ])
              refine wpAnyH_take (i := 8) (oi := { dst := some 97, op := Op.binOp BinOp.eql 28 (Operand.tmp 96) (Operand.const Value.nilIface) 28, type := 4, pos := "head.go:78", after := #[{ on := 7, ground := Ground.data }, { on := 9, ground := Ground.gcOnly Departure.lateStores }], guard := none }) (v := ?_) rfl (by kernel_rfl) (by kernel_rfl) (by kernel_rfl) (fun _ _ _ h => h) (Or.inl ⟨by rfl, ?_⟩) hHeld ?_
              rotate_left
              · intro w hSw; (try dsimp only at hSw); (try go_split_ands); go_simp; (first | done | with_reducible rfl)
              (try simp only [Act.put, List.setIfInBounds_toArray, List.set_cons_zero, List.set_cons_succ])
              refine wpAnyH_take (i := 9) (oi := { dst := some 4, op := Op.assign (Operand.tmp 92), type := 41, pos := "head.go:78", after := #[{ on := 3, ground := Ground.data }, { on := 7, ground := Ground.chain }, { on := 0, ground := Ground.phase }, { on := 1, ground := Ground.phase }, { on := 2, ground := Ground.phase }, { on := 3, ground := Ground.phase }, { on := 4, ground := Ground.textOnly Departure.lateStores }, { on := 5, ground := Ground.textOnly Departure.lateStores }, { on := 6, ground := Ground.textOnly Departure.lateStoresUnsure }, { on := 7, ground := Ground.textOnly Departure.lateStoresUnsure }, { on := 8, ground := Ground.textOnly Departure.lateStores }], guard := none }) (v := ?_) rfl (by kernel_rfl) (by kernel_rfl) (by kernel_rfl) (fun _ _ _ h => h) (Or.inl ⟨by rfl, ?_⟩) hHeld ?_
              rotate_left
              · intro w hSw; (try dsimp only at hSw); (try go_split_ands); go_simp; (first | done | with_reducible rfl)
              (try simp only [Act.put, List.setIfInBounds_toArray, List.set_cons_zero, List.set_cons_succ])
              refine wpAnyH_take (i := 10) (oi := { dst := some 5, op := Op.assign (Operand.tmp 97), type := 4, pos := "head.go:78", after := #[{ on := 8, ground := Ground.data }, { on := 9, ground := Ground.chain }, { on := 0, ground := Ground.phase }, { on := 1, ground := Ground.phase }, { on := 2, ground := Ground.phase }, { on := 3, ground := Ground.phase }, { on := 4, ground := Ground.phase }, { on := 5, ground := Ground.phase }, { on := 6, ground := Ground.phase }, { on := 7, ground := Ground.phase }, { on := 8, ground := Ground.phase }, { on := 9, ground := Ground.phase }], guard := none }) (v := ?_) rfl (by kernel_rfl) (by kernel_rfl) (by kernel_rfl) (fun _ _ _ h => h) (Or.inl ⟨by rfl, ?_⟩) hHeld ?_
              rotate_left
              · intro w hSw; (try dsimp only at hSw); (try go_split_ands); go_simp; (first | done | with_reducible rfl)
              (try simp only [Act.put, List.setIfInBounds_toArray, List.set_cons_zero, List.set_cons_succ])
              refine wpAnyH_done (by kernel_rfl) ?_ _
              refine NoPanic.normal ?_
              have HG9 := Lib.hid ((HQ.out.more (HWa.out.2.trans (HTb.out.mono HWa.out.2.size))).grown)
              have HW9 := Lib.hid (HWa.out.1.below HTb.out)
              have HB9 := Lib.hid ((HQ.out.more (HWa.out.2.trans (HTb.out.mono HWa.out.2.size))).st)
              go_wp2
              go_ret2
              exact ⟨HG9.out, .inr ⟨l9, s, HOp.out, A8, c8, by rw [HL9.out]; rfl, by rw [HL9.out]; exact HW9.out.base (by have h1 := HQ.out.met.lt; simp; omega), HB9.out⟩⟩
          · intro x cc kl ya yb w1 cnt1 hkey hleft hR6 hat hrg1 hlt1 hg1 hs1 hen
            obtain ⟨rfl, hxs⟩ := key_str_val x kl hkey
            obtain ⟨m2, v2⟩ := cc
            have hy : ya = .held (.agg #[.bool m2, v2]) := congrArg Prod.fst (Option.some.inj (hR6.symm.trans (R6_mk m2 v2)))
            subst hy
            obtain ⟨r, hrm, hfr, rfl, rfl, hnm⟩ := rd_entry HRD.out hat
            obtain ⟨K2, f2, p2, hv2, _, _⟩ := HF.out r hrm
            have HQ1 := Lib.hid (HQ.out.other HC.out HR.out hg1 (show w.heap.size < wo.heap.size from by have h1 := HJ.out.met.lt; omega))
            have HRg1 := Lib.hid hrg1
            have HLt := Lib.hid (And.intro hlt1 HRg.out.left_eq)
            have HRM := Lib.hid (And.intro hrm (And.intro hfr hnm))
            replace hen : (Instr.entry (.pointer (some ⟨wo.heap.size, 0, none⟩))).run Tryz.prog w1 = .ok (.tuple #[.string x, .agg #[.bool r.1.must, r.2]]) w1 := hen
            clear hkey hat hR6 hleft hg1 hrg1 hs1 hlt1 hrm hfr hnm
            obtain ⟨⟨rn, rm, rt⟩, rv⟩ := r
            simp only at hv2 hen HRM
            subst hv2
            have hb1 : Below w1.heap.size w1 (w1.alloc (.cells #[.bool rm, .func (.func K2) f2 p2] 170)) := (Below.refl _ _).alloc (Nat.le_refl _) _
            have HQ2 := Lib.hid (HQ1.out.more hb1)
            have HRg2 := Lib.hid (HRg1.out.alloc (.cells #[.bool rm, .func (.func K2) f2 p2] 170))
            have hmet := run_met HQ2.out.met x hxs
            obtain ⟨mt, hmt⟩ : ∃ b, ((l.take k).map nmOf).contains x.data.toList = b := ⟨_, rfl⟩
            rw [hmt] at hmet
            have HMT := Lib.hid hmt
            clear hb1 hmt
            have hnx : mkR ⟨rm, .func (.func K2) f2 p2⟩ = .agg #[.bool rm, .func (.func K2) f2 p2] := rfl
            rw [hnx]
            clear hnx
            rcases rm with _ | _
            · go_wp2
              go_roundw
              case rel => exact Lib.hid ⟨_, cnt1, HRg2.out, HQ2.out, fun nm r hf hl => by
                by_cases e : nm = x.data.toList
                · subst e
                  obtain rfl := Option.some.inj (HRM.out.2.1.symm.trans hf)
                  rfl
                · exact HGd.out nm r hf (by simpa [Maps.sameKey_ne (lt_ne e)] using hl)⟩
              case measure => rw [HRg2.out.left_eq, HLt.out.2]; exact HLt.out.1
            · rcases mt with _ | _
              · have HN := Lib.hid (HThr.out.trans (if_neg (by rw [musts_false HRM.out.1 (by simp only [Bool.not_true, Bool.false_or]; rw [HRM.out.2.2]; exact HMT.out)]; exact Bool.false_ne_true)))
                go_wp2
                go_ret2
                exact ⟨HQ2.out.grown, .inl ⟨HN.out, _, _, _, rfl⟩⟩
              · go_wp2
                go_roundw
                case rel => exact Lib.hid ⟨_, cnt1, HRg2.out, HQ2.out, fun nm r hf hl => by
                  by_cases e : nm = x.data.toList
                  · subst e
                    rw [HMT.out, Bool.or_true]
                  · exact HGd.out nm r hf (by simpa [Maps.sameKey_ne (lt_ne e)] using hl)⟩
                case measure => rw [HRg2.out.left_eq, HLt.out.2]; exact HLt.out.1
      · have HCol := Lib.hid (all_take_more l ⟨⟨#[]⟩, ⟨#[]⟩, false⟩ colonB k (by rw [HL.out]; exact hlt) HJ.out.col (by rw [HX.out]; exact HCB.out))
        have HPre := Lib.hid (show preN (rs.map (·.1)) (l.take (k + 1)) [] s0 = Hd.step (rs.map (·.1)) ⟨xn, xv, xb⟩ ((l.take k).map nmOf) s by
          have hkl : k < l.length := by rw [HL.out]; exact hlt
          have e := preN_snoc (rs := rs.map (·.1)) (l.take k) (l.getD k ⟨⟨#[]⟩, ⟨#[]⟩, false⟩) [] s0 s HJ.out.pre
          rw [HX.out] at e
          rw [← HX.out, List.take_succ_eq_append_getElem hkl]
          have e3 : l[k] = l.getD k ⟨⟨#[]⟩, ⟨#[]⟩, false⟩ := by simp [List.getD, hkl]
          rw [e3, HX.out]
          exact e)
        have HBad := Lib.hid (show Hd.step (rs.map (·.1)) ⟨xn, xv, xb⟩ ((l.take k).map nmOf) s = none → openS (rs.map (·.1)) l s0 = none from fun h => open_bad (by rw [HL.out]; exact hlt) HCol.out (HPre.out.trans h))
        obtain ⟨ok, hok⟩ : ∃ ok, ((rs.find? (fun r => r.1.name == xn.data.toList))).isSome = ok := ⟨_, rfl⟩
        rw [hok] at hrun
        have HOK := Lib.hid hok
        clear hok
        have HWorld := Lib.hid (fun (o : Obj) (q : Nat) => below_drewN ((Below.refl wr.heap.size wr).alloc (Nat.le_refl _) o) q)
        rcases ok with _ | _
        · have hnone : rs.find? (fun r => r.1.name == xn.data.toList) = none := by simpa using HOK.out
          obtain ⟨rfl, rfl⟩ := HRN.out hnone
          have HN := Lib.hid (HBad.out (by unfold Hd.step; rw [find_map, show tx xn = xn.data.toList from rfl, hnone]; rfl))
          clear hnone
          go_wp2_with ((with_reducible refine (HP.out _).mono ?_); rintro e w1 ⟨rfl, rfl⟩)
          go_quiet (fail)
          have HG := Lib.hid (HJ.out.more (HWorld.out (.cells #[.bool false, .nilFunc] 170) nq)).grown
          go_wp2
          go_ret2
          exact ⟨HG.out, .inl ⟨HN.out, _, _, _, rfl⟩⟩
        · obtain ⟨r, hr⟩ : ∃ r, rs.find? (fun r => r.1.name == xn.data.toList) = some r := Option.isSome_iff_exists.1 HOK.out
          obtain ⟨rfl, rfl⟩ := HRR.out r hr
          obtain ⟨K0, f0, p0, hfv, hE0, hcall⟩ := HF.out r (List.mem_of_find?_eq_some hr)
          have HCall := Lib.hid hcall
          have hE : ∀ args w, (callFunc K0 args).run Tryz.prog w = .ok (.enter K0 args) w := hE0
          obtain ⟨⟨rn, rm, rt⟩, rv⟩ := r
          simp only at hfv hrun HCall
          subst hfv
          clear hcall hE0
          have HStep := Lib.hid (show Hd.step (rs.map (·.1)) ⟨xn, xv, xb⟩ ((l.take k).map nmOf) s = if ((l.take k).map nmOf).contains (tx xn) then none else if valueB (tx xv) then (if (rt xv s).1 then some (rt xv s).2 else none) else none by
            unfold Hd.step; rw [find_map, show tx xn = xn.data.toList from rfl, hr]; rfl)
          have hmet := fun (o : Obj) (q : Nat) => run_met (HJ.out.more (HWorld.out o q)).met xn (by simp only [maxLen]; omega)
          obtain ⟨mt, hmt⟩ : ∃ b, ((l.take k).map nmOf).contains xn.data.toList = b := ⟨_, rfl⟩
          rw [hmt] at hmet
          rw [show tx xn = xn.data.toList from rfl, hmt] at HStep
          have HMT := Lib.hid hmt
          clear hr hmt
          rcases mt with _ | _
          · have HV := Lib.hid (fun W => value_any xv W s2)
            rw [show tx xv = xv.data.toList from rfl] at HStep
            obtain ⟨vb, hvb⟩ : ∃ b, valueB xv.data.toList = b := ⟨_, rfl⟩
            rw [hvb] at HV HStep
            clear hvb
            have hS1 := hmet (.cells #[.bool rm, .func (.func K0) f0 p0] 170) 1
            clear hmet
            go_wp2_with ((with_reducible refine (HP.out _).mono ?_); rintro e w1 ⟨rfl, rfl⟩)
            have hb1 : Below wr.heap.size wr (wr.alloc (.cells #[.bool rm, .func (.func K0) f0 p0] 170)) := (Below.refl _ _).alloc (Nat.le_refl _) _
            have HT := Lib.hid (fun W (hW : Below wr.heap.size wr W) (hB : Blk W wr.heap.size 170 #[.bool rm, .func (.func K0) f0 p0]) => (by have h := sp_s (HJ.out.more hW) HX.out hlt (by omega) hB; rw [HMT.out] at h; exact h : W.cell? (ad.add (k * 3)) = some (.string xn) ∧ W.cell? ⟨(ad.add (k * 3)).block, (ad.add (k * 3)).off + 1, none⟩ = some (.string xv) ∧ W.cell? ⟨wr.heap.size, 1, none⟩ = some (.func (.func K0) f0 p0) ∧ (Instr.lookup 211 (.map (some w.heap.size)) (.string xn) false).run Tryz.prog W = .ok (.bool false) W))
            have hB1 := Blk.new wr 170 #[.bool rm, .func (.func K0) f0 p0]
            have hk1 := HT.out (wr.alloc (.cells #[.bool rm, .func (.func K0) f0 p0] 170)).drew (below_drewN hb1 1) (hB1.drewN 1)
            have HB1 := Lib.hid (And.intro hb1 hB1)
            have HK1 := Lib.hid hk1
            clear hS1 hb1 hB1 hk1 hrun a0 a1
            rcases vb with _ | _
            · have HN := Lib.hid (HBad.out (by rw [HStep.out]; rfl))
              refine wp_region_noPanic ?_
              refine wp_region_held_drew (S := fun w' => w'.cell? (ad.add (k * 3)) = some (.string xn) ∧ w'.cell? ⟨(ad.add (k * 3)).block, (ad.add (k * 3)).off + 1, none⟩ = some (.string xv) ∧ w'.cell? ⟨wr.heap.size, 1, none⟩ = some (.func (.func K0) f0 p0) ∧ (Instr.lookup 211 (.map (some w.heap.size)) (.string xn) false).run Tryz.prog w' = .ok (.bool false) w') (by kernel_rfl) HK1.out (fun hHeld => ?_)
              refine wpAnyH_take (i := 0) (oi := { dst := some 37, op := Op.move (Operand.tmp 9), type := 4, pos := "head.go:68", after := #[], guard := none }) (v := ?_) rfl (by kernel_rfl) (by kernel_rfl) (by kernel_rfl) (fun _ _ _ h => h) (Or.inl ⟨by rfl, ?_⟩) hHeld ?_
              rotate_left
              · intro w hSw; (try dsimp only at hSw); (try go_split_ands); go_simp; (first | done | with_reducible rfl)
              (try simp only [Act.put, List.setIfInBounds_toArray, List.set_cons_zero, List.set_cons_succ])
              refine wpAnyH_take (i := 1) (oi := { dst := some 38, op := Op.unOp UnOp.not 4 (Operand.tmp 37), type := 4, pos := "head.go:68", after := #[{ on := 0, ground := Ground.data }], guard := none }) (v := ?_) rfl (by kernel_rfl) (by kernel_rfl) (by kernel_rfl) (fun _ _ _ h => h) (Or.inl ⟨by rfl, ?_⟩) hHeld ?_
              rotate_left
              · intro w hSw; (try dsimp only at hSw); (try go_split_ands); go_simp; (first | done | with_reducible rfl)
              (try simp only [Act.put, List.setIfInBounds_toArray, List.set_cons_zero, List.set_cons_succ])
              refine wpAnyH_take (i := 2) (oi := { dst := some 39, op := Op.move (Operand.tmp 38), type := 4, pos := "head.go:68", after := #[{ on := 1, ground := Ground.data }], guard := none }) (v := ?_) rfl (by kernel_rfl) (by kernel_rfl) (by kernel_rfl) (fun _ _ _ h => h) (Or.inl ⟨by rfl, ?_⟩) hHeld ?_
              rotate_left
              · intro w hSw; (try dsimp only at hSw); (try go_split_ands); go_simp; (first | done | with_reducible rfl)
              (try simp only [Act.put, List.setIfInBounds_toArray, List.set_cons_zero, List.set_cons_succ])
              refine wpAnyH_take (i := 3) (oi := { dst := some 40, op := Op.move (Operand.tmp 6), type := 211, pos := "head.go:68", after := #[{ on := 2, ground := Ground.guard }], guard := some (2, false) }) (v := ?_) rfl (by kernel_rfl) (by kernel_rfl) (by kernel_rfl) (fun _ _ _ h => h) (Or.inl ⟨by rfl, ?_⟩) hHeld ?_
              rotate_left
              · intro w hSw; (try dsimp only at hSw); (try go_split_ands); go_simp; (first | done | with_reducible rfl)
              (try simp only [Act.put, List.setIfInBounds_toArray, List.set_cons_zero, List.set_cons_succ])
              refine wpAnyH_take (i := 4) (oi := { dst := some 41, op := Op.move (Operand.tmp 0), type := 41, pos := "head.go:68", after := #[{ on := 2, ground := Ground.guard }], guard := some (2, false) }) (v := ?_) rfl (by kernel_rfl) (by kernel_rfl) (by kernel_rfl) (fun _ _ _ h => h) (Or.inl ⟨by rfl, ?_⟩) hHeld ?_
              rotate_left
              · intro w hSw; (try dsimp only at hSw); (try go_split_ands); go_simp; (first | done | with_reducible rfl)
              (try simp only [Act.put, List.setIfInBounds_toArray, List.set_cons_zero, List.set_cons_succ])
              refine wpAnyH_take (i := 5) (oi := { dst := some 42, op := Op.move (Operand.tmp 7), type := 3, pos := "head.go:68", after := #[{ on := 2, ground := Ground.guard }], guard := some (2, false) }) (v := ?_) rfl (by kernel_rfl) (by kernel_rfl) (by kernel_rfl) (fun _ _ _ h => h) (Or.inl ⟨by rfl, ?_⟩) hHeld ?_
              rotate_left
              · intro w hSw; (try dsimp only at hSw); (try go_split_ands); go_simp; (first | done | with_reducible rfl)
              (try simp only [Act.put, List.setIfInBounds_toArray, List.set_cons_zero, List.set_cons_succ])
              refine wpAnyH_take (i := 6) (oi := { dst := some 43, op := Op.indexAddr 41 (Operand.tmp 41) (Operand.tmp 42), type := 0, pos := "head.go:68", after := #[{ on := 4, ground := Ground.data }, { on := 5, ground := Ground.data }, { on := 2, ground := Ground.guard }], guard := some (2, false) }) (v := ?_) rfl (by kernel_rfl) (by kernel_rfl) (by kernel_rfl) (fun _ _ _ h => h) (Or.inl ⟨by rfl, ?_⟩) hHeld ?_
              rotate_left
              · intro w hSw; (try dsimp only at hSw); (try go_split_ands); go_simp; (first | done | with_reducible rfl)
              (try simp only [Act.put, List.setIfInBounds_toArray, List.set_cons_zero, List.set_cons_succ])
              refine wpAnyH_take (i := 7) (oi := { dst := some 44, op := Op.fieldAddr 63 (Operand.tmp 43) 0, type := 0, pos := "head.go:68", after := #[{ on := 6, ground := Ground.data }, { on := 2, ground := Ground.guard }], guard := some (2, false) }) (v := ?_) rfl (by kernel_rfl) (by kernel_rfl) (by kernel_rfl) (fun _ _ _ h => h) (Or.inl ⟨by rfl, ?_⟩) hHeld ?_
              rotate_left
              · intro w hSw; (try dsimp only at hSw); (try go_split_ands); go_simp; (first | done | with_reducible rfl)
              (try simp only [Act.put, List.setIfInBounds_toArray, List.set_cons_zero, List.set_cons_succ])
              refine wpAnyH_take (i := 8) (oi := { dst := some 45, op := Op.load 9 (Operand.tmp 44), type := 9, pos := "head.go:68", after := #[{ on := 7, ground := Ground.data }, { on := 2, ground := Ground.guard }], guard := some (2, false) }) (v := ?_) rfl (by kernel_rfl) (by kernel_rfl) (by kernel_rfl) (fun _ _ _ h => h) (Or.inl ⟨by rfl, ?_⟩) hHeld ?_
              rotate_left
              · intro w hSw; (try dsimp only at hSw); (try go_split_ands); go_simp; (first | done | with_reducible rfl)
              (try simp only [Act.put, List.setIfInBounds_toArray, List.set_cons_zero, List.set_cons_succ])
              refine wpAnyH_take (i := 9) (oi := { dst := some 46, op := Op.lookup 211 (Operand.tmp 40) (Operand.tmp 45) false, type := 4, pos := "head.go:68", after := #[{ on := 3, ground := Ground.data }, { on := 8, ground := Ground.data }, { on := 2, ground := Ground.guard }], guard := some (2, false) }) (v := ?_) rfl (by kernel_rfl) (by kernel_rfl) (by kernel_rfl) (fun _ _ _ h => h) (Or.inl ⟨by rfl, ?_⟩) hHeld ?_
              rotate_left
              · intro w hSw; (try dsimp only at hSw); (try go_split_ands); go_simp; (first | done | with_reducible rfl)
              (try simp only [Act.put, List.setIfInBounds_toArray, List.set_cons_zero, List.set_cons_succ])
              refine wpAnyH_take (i := 10) (oi := { dst := some 47, op := Op.pick (Operand.tmp 39) (Operand.const (Value.bool true)) (Operand.tmp 46), type := 4, pos := "head.go:68", after := #[{ on := 2, ground := Ground.data }, { on := 9, ground := Ground.data }], guard := none }) (v := ?_) rfl (by kernel_rfl) (by kernel_rfl) (by kernel_rfl) (fun _ _ _ h => h) (Or.inl ⟨by rfl, ?_⟩) hHeld ?_
              rotate_left
              · intro w hSw; (try dsimp only at hSw); (try go_split_ands); go_simp; (first | done | with_reducible rfl)
              (try simp only [Act.put, List.setIfInBounds_toArray, List.set_cons_zero, List.set_cons_succ])
              refine wpAnyH_take (i := 11) (oi := { dst := some 48, op := Op.move (Operand.tmp 47), type := 4, pos := "head.go:68", after := #[{ on := 10, ground := Ground.data }, { on := 2, ground := Ground.chain }], guard := none }) (v := ?_) rfl (by kernel_rfl) (by kernel_rfl) (by kernel_rfl) (fun _ _ _ h => h) (Or.inl ⟨by rfl, ?_⟩) hHeld ?_
              rotate_left
              · intro w hSw; (try dsimp only at hSw); (try go_split_ands); go_simp; (first | done | with_reducible rfl)
              (try simp only [Act.put, List.setIfInBounds_toArray, List.set_cons_zero, List.set_cons_succ])
              refine wpAnyH_take (i := 12) (oi := { dst := some 49, op := Op.move (Operand.tmp 0), type := 41, pos := "head.go:68", after := #[{ on := 11, ground := Ground.guard }], guard := some (11, false) }) (v := ?_) rfl (by kernel_rfl) (by kernel_rfl) (by kernel_rfl) (fun _ _ _ h => h) (Or.inl ⟨by rfl, ?_⟩) hHeld ?_
              rotate_left
              · intro w hSw; (try dsimp only at hSw); (try go_split_ands); go_simp; (first | done | with_reducible rfl)
              (try simp only [Act.put, List.setIfInBounds_toArray, List.set_cons_zero, List.set_cons_succ])
              refine wpAnyH_take (i := 13) (oi := { dst := some 50, op := Op.move (Operand.tmp 7), type := 3, pos := "head.go:68", after := #[{ on := 11, ground := Ground.guard }], guard := some (11, false) }) (v := ?_) rfl (by kernel_rfl) (by kernel_rfl) (by kernel_rfl) (fun _ _ _ h => h) (Or.inl ⟨by rfl, ?_⟩) hHeld ?_
              rotate_left
              · intro w hSw; (try dsimp only at hSw); (try go_split_ands); go_simp; (first | done | with_reducible rfl)
              (try simp only [Act.put, List.setIfInBounds_toArray, List.set_cons_zero, List.set_cons_succ])
              refine wpAnyH_take (i := 14) (oi := { dst := some 51, op := Op.indexAddr 41 (Operand.tmp 49) (Operand.tmp 50), type := 0, pos := "head.go:68", after := #[{ on := 12, ground := Ground.data }, { on := 13, ground := Ground.data }, { on := 11, ground := Ground.guard }], guard := some (11, false) }) (v := ?_) rfl (by kernel_rfl) (by kernel_rfl) (by kernel_rfl) (fun _ _ _ h => h) (Or.inl ⟨by rfl, ?_⟩) hHeld ?_
              rotate_left
              · intro w hSw; (try dsimp only at hSw); (try go_split_ands); go_simp; (first | done | with_reducible rfl)
              (try simp only [Act.put, List.setIfInBounds_toArray, List.set_cons_zero, List.set_cons_succ])
              refine wpAnyH_take (i := 15) (oi := { dst := some 52, op := Op.fieldAddr 63 (Operand.tmp 51) 1, type := 0, pos := "head.go:68", after := #[{ on := 14, ground := Ground.data }, { on := 11, ground := Ground.guard }], guard := some (11, false) }) (v := ?_) rfl (by kernel_rfl) (by kernel_rfl) (by kernel_rfl) (fun _ _ _ h => h) (Or.inl ⟨by rfl, ?_⟩) hHeld ?_
              rotate_left
              · intro w hSw; (try dsimp only at hSw); (try go_split_ands); go_simp; (first | done | with_reducible rfl)
              (try simp only [Act.put, List.setIfInBounds_toArray, List.set_cons_zero, List.set_cons_succ])
              refine wpAnyH_take (i := 16) (oi := { dst := some 53, op := Op.load 9 (Operand.tmp 52), type := 9, pos := "head.go:68", after := #[{ on := 15, ground := Ground.data }, { on := 11, ground := Ground.guard }], guard := some (11, false) }) (v := ?_) rfl (by kernel_rfl) (by kernel_rfl) (by kernel_rfl) (fun _ _ _ h => h) (Or.inl ⟨by rfl, ?_⟩) hHeld ?_
              rotate_left
              · intro w hSw; (try dsimp only at hSw); (try go_split_ands); go_simp; (first | done | with_reducible rfl)
              (try simp only [Act.put, List.setIfInBounds_toArray, List.set_cons_zero, List.set_cons_succ])
              refine wpAnyH_ready (rs := [17]) (by kernel_rfl) (by simp) ?_
              refine AllReadyH.cons (o := { dst := some 54, op := Op.call { callee := Callee.value (Operand.func 132), args := #[Operand.tmp 53], argTypes := #[9] }, type := 4, pos := "head.go:68", after := #[{ on := 16, ground := Ground.data }, { on := 11, ground := Ground.chain }, { on := 11, ground := Ground.guard }], guard := some (11, false) }) rfl (fun K hK => ?_) AllReadyH.nil
              go_simp
              refine (HV.out _).mono ?_
              rintro e w6 ⟨rfl, g6⟩
              have hb6 : Below wr.heap.size wr w6 := HB1.out.1.trans (below_of_drew g6 |>.mono (by simp))
              have hB6 : Blk w6 wr.heap.size 170 #[.bool rm, .func (.func K0) f0 p0] := (HB1.out.2.drewN 1).below g6 (by simp)
              have hk6 := HT.out w6 hb6 hB6
              have HB6 := Lib.hid (And.intro hb6 hB6)
              have HK6 := Lib.hid hk6
              clear g6 hb6 hB6 hk6
              (try go_simp)
              refine hK.out _ _ HK6.out (fun hHeld2 => ?_)
              clear hHeld
              have hHeld := hHeld2
              clear hHeld2 hK K
              (try simp only [Act.put, List.setIfInBounds_toArray, List.set_cons_zero, List.set_cons_succ])
              refine wpAnyH_take (i := 18) (oi := { dst := some 55, op := Op.unOp UnOp.not 4 (Operand.tmp 54), type := 4, pos := "head.go:68", after := #[{ on := 17, ground := Ground.data }, { on := 11, ground := Ground.guard }], guard := some (11, false) }) (v := ?_) rfl (by kernel_rfl) (by kernel_rfl) (by kernel_rfl) (fun _ _ _ h => h) (Or.inl ⟨by rfl, ?_⟩) hHeld ?_
              rotate_left
              · intro w hSw; (try dsimp only at hSw); (try go_split_ands); go_simp; (first | done | with_reducible rfl)
              (try simp only [Act.put, List.setIfInBounds_toArray, List.set_cons_zero, List.set_cons_succ])
              refine wpAnyH_take (i := 19) (oi := { dst := some 56, op := Op.pick (Operand.tmp 48) (Operand.const (Value.bool true)) (Operand.tmp 55), type := 4, pos := "head.go:68", after := #[{ on := 11, ground := Ground.data }, { on := 18, ground := Ground.data }], guard := none }) (v := ?_) rfl (by kernel_rfl) (by kernel_rfl) (by kernel_rfl) (fun _ _ _ h => h) (Or.inl ⟨by rfl, ?_⟩) hHeld ?_
              rotate_left
              · intro w hSw; (try dsimp only at hSw); (try go_split_ands); go_simp; (first | done | with_reducible rfl)
              (try simp only [Act.put, List.setIfInBounds_toArray, List.set_cons_zero, List.set_cons_succ])
              refine wpAnyH_take (i := 20) (oi := { dst := some 57, op := Op.move (Operand.tmp 56), type := 4, pos := "head.go:68", after := #[{ on := 19, ground := Ground.data }, { on := 17, ground := Ground.chain }], guard := none }) (v := ?_) rfl (by kernel_rfl) (by kernel_rfl) (by kernel_rfl) (fun _ _ _ h => h) (Or.inl ⟨by rfl, ?_⟩) hHeld ?_
              rotate_left
              · intro w hSw; (try dsimp only at hSw); (try go_split_ands); go_simp; (first | done | with_reducible rfl)
              (try simp only [Act.put, List.setIfInBounds_toArray, List.set_cons_zero, List.set_cons_succ])
              refine wpAnyH_take (i := 21) (oi := { dst := some 58, op := Op.fieldAddr 170 (Operand.tmp 8) 1, type := 0, pos := "head.go:68", after := #[{ on := 20, ground := Ground.guard }], guard := some (20, false) }) (v := undef) rfl (by kernel_rfl) (by kernel_rfl) (by kernel_rfl) (fun _ _ _ h => h) (Or.inr ⟨by rfl, rfl⟩) hHeld ?_
              (try simp only [Act.put, List.setIfInBounds_toArray, List.set_cons_zero, List.set_cons_succ])
              refine wpAnyH_take (i := 22) (oi := { dst := some 59, op := Op.load 111 (Operand.tmp 58), type := 111, pos := "head.go:68", after := #[{ on := 21, ground := Ground.data }, { on := 20, ground := Ground.guard }], guard := some (20, false) }) (v := undef) rfl (by kernel_rfl) (by kernel_rfl) (by kernel_rfl) (fun _ _ _ h => h) (Or.inr ⟨by rfl, rfl⟩) hHeld ?_
              (try simp only [Act.put, List.setIfInBounds_toArray, List.set_cons_zero, List.set_cons_succ])
              refine wpAnyH_take (i := 23) (oi := { dst := some 60, op := Op.move (Operand.tmp 0), type := 41, pos := "head.go:68", after := #[{ on := 20, ground := Ground.guard }], guard := some (20, false) }) (v := undef) rfl (by kernel_rfl) (by kernel_rfl) (by kernel_rfl) (fun _ _ _ h => h) (Or.inr ⟨by rfl, rfl⟩) hHeld ?_
              (try simp only [Act.put, List.setIfInBounds_toArray, List.set_cons_zero, List.set_cons_succ])
              refine wpAnyH_take (i := 24) (oi := { dst := some 61, op := Op.move (Operand.tmp 7), type := 3, pos := "head.go:68", after := #[{ on := 20, ground := Ground.guard }], guard := some (20, false) }) (v := undef) rfl (by kernel_rfl) (by kernel_rfl) (by kernel_rfl) (fun _ _ _ h => h) (Or.inr ⟨by rfl, rfl⟩) hHeld ?_
              (try simp only [Act.put, List.setIfInBounds_toArray, List.set_cons_zero, List.set_cons_succ])
              refine wpAnyH_take (i := 25) (oi := { dst := some 62, op := Op.indexAddr 41 (Operand.tmp 60) (Operand.tmp 61), type := 0, pos := "head.go:68", after := #[{ on := 23, ground := Ground.data }, { on := 24, ground := Ground.data }, { on := 20, ground := Ground.guard }], guard := some (20, false) }) (v := undef) rfl (by kernel_rfl) (by kernel_rfl) (by kernel_rfl) (fun _ _ _ h => h) (Or.inr ⟨by rfl, rfl⟩) hHeld ?_
              (try simp only [Act.put, List.setIfInBounds_toArray, List.set_cons_zero, List.set_cons_succ])
              refine wpAnyH_take (i := 26) (oi := { dst := some 63, op := Op.fieldAddr 63 (Operand.tmp 62) 1, type := 0, pos := "head.go:68", after := #[{ on := 25, ground := Ground.data }, { on := 20, ground := Ground.guard }], guard := some (20, false) }) (v := undef) rfl (by kernel_rfl) (by kernel_rfl) (by kernel_rfl) (fun _ _ _ h => h) (Or.inr ⟨by rfl, rfl⟩) hHeld ?_
              (try simp only [Act.put, List.setIfInBounds_toArray, List.set_cons_zero, List.set_cons_succ])
              refine wpAnyH_take (i := 27) (oi := { dst := some 64, op := Op.load 9 (Operand.tmp 63), type := 9, pos := "head.go:68", after := #[{ on := 26, ground := Ground.data }, { on := 20, ground := Ground.guard }], guard := some (20, false) }) (v := undef) rfl (by kernel_rfl) (by kernel_rfl) (by kernel_rfl) (fun _ _ _ h => h) (Or.inr ⟨by rfl, rfl⟩) hHeld ?_
              (try simp only [Act.put, List.setIfInBounds_toArray, List.set_cons_zero, List.set_cons_succ])
              refine wpAnyH_take (i := 28) (oi := { dst := some 65, op := Op.call { callee := Callee.value (Operand.tmp 59), args := #[Operand.tmp 64], argTypes := #[9] }, type := 4, pos := "head.go:68", after := #[{ on := 22, ground := Ground.data }, { on := 27, ground := Ground.data }, { on := 20, ground := Ground.chain }, { on := 20, ground := Ground.guard }], guard := some (20, false) }) (v := undef) rfl (by kernel_rfl) (by kernel_rfl) (by kernel_rfl) (fun _ _ _ h => h) (Or.inr ⟨by rfl, rfl⟩) hHeld ?_
              (try simp only [Act.put, List.setIfInBounds_toArray, List.set_cons_zero, List.set_cons_succ])
              refine wpAnyH_take (i := 29) (oi := { dst := some 66, op := Op.unOp UnOp.not 4 (Operand.tmp 65), type := 4, pos := "head.go:68", after := #[{ on := 28, ground := Ground.data }, { on := 20, ground := Ground.guard }], guard := some (20, false) }) (v := undef) rfl (by kernel_rfl) (by kernel_rfl) (by kernel_rfl) (fun _ _ _ h => h) (Or.inr ⟨by rfl, rfl⟩) hHeld ?_
              (try simp only [Act.put, List.setIfInBounds_toArray, List.set_cons_zero, List.set_cons_succ])
              refine wpAnyH_take (i := 30) (oi := { dst := some 67, op := Op.pick (Operand.tmp 57) (Operand.const (Value.bool true)) (Operand.tmp 66), type := 4, pos := "head.go:68", after := #[{ on := 20, ground := Ground.data }, { on := 29, ground := Ground.data }], guard := none }) (v := ?_) rfl (by kernel_rfl) (by kernel_rfl) (by kernel_rfl) (fun _ _ _ h => h) (Or.inl ⟨by rfl, ?_⟩) hHeld ?_
              rotate_left
              · intro w hSw; (try dsimp only at hSw); (try go_split_ands); go_simp; (first | done | with_reducible rfl)
              (try simp only [Act.put, List.setIfInBounds_toArray, List.set_cons_zero, List.set_cons_succ])
              refine wpAnyH_done (by kernel_rfl) ?_ _
              refine NoPanic.normal ?_
              have HG := Lib.hid (HJ.out.more HB6.out.1).grown
              go_wp2
              go_ret2
              exact ⟨HG.out, .inl ⟨HN.out, _, _, _, rfl⟩⟩
            · have HTk := Lib.hid (fun W (hJ : SpJ w g T cells rs (some ad) n l mb nb s0 k s W) (hW : Below wr.heap.size wr W) => HCall.out W s (.string xv) xv (Kx.grown hJ.grown (fun j e => by injection e with e; exact e.symm)) hJ.st ⟨rfl, s2⟩)
              obtain ⟨tb, htb⟩ : ∃ b, (rt xv s).1 = b := ⟨_, rfl⟩
              obtain ⟨st', hst'⟩ : ∃ b, (rt xv s).2 = b := ⟨_, rfl⟩
              have HTk2 := Lib.hid (fun W (hJ : SpJ w g T cells rs (some ad) n l mb nb s0 k s W) (hW : Below wr.heap.size wr W) => (show Calls Tryz.prog K0 (f0.push (.string xv) ++ p0) W fun e w' => e = .returned (.bool tb) ∧ Hid (Blk w' g T (cells st') ∧ W.grownBy w' (some g)) from (HTk.out W hJ hW).mono (by
                rintro e w7 ⟨yv, rfl, hy, hs7, hg7⟩
                have hy : yv = .bool (rt xv s).1 := hy
                rw [htb] at hy
                rw [hst'] at hs7
                exact ⟨by rw [hy], Lib.hid ⟨hs7, hg7⟩⟩)))
              rw [htb, hst'] at HStep
              clear HTk htb hst' HCall
              refine wp_region_noPanic ?_
              refine wp_region_held_drew (S := fun w' => w'.cell? (ad.add (k * 3)) = some (.string xn) ∧ w'.cell? ⟨(ad.add (k * 3)).block, (ad.add (k * 3)).off + 1, none⟩ = some (.string xv) ∧ w'.cell? ⟨wr.heap.size, 1, none⟩ = some (.func (.func K0) f0 p0) ∧ (Instr.lookup 211 (.map (some w.heap.size)) (.string xn) false).run Tryz.prog w' = .ok (.bool false) w') (by kernel_rfl) HK1.out (fun hHeld => ?_)
              refine wpAnyH_take (i := 0) (oi := { dst := some 37, op := Op.move (Operand.tmp 9), type := 4, pos := "head.go:68", after := #[], guard := none }) (v := ?_) rfl (by kernel_rfl) (by kernel_rfl) (by kernel_rfl) (fun _ _ _ h => h) (Or.inl ⟨by rfl, ?_⟩) hHeld ?_
              rotate_left
              · intro w hSw; (try dsimp only at hSw); (try go_split_ands); go_simp; (first | done | with_reducible rfl)
              (try simp only [Act.put, List.setIfInBounds_toArray, List.set_cons_zero, List.set_cons_succ])
              refine wpAnyH_take (i := 1) (oi := { dst := some 38, op := Op.unOp UnOp.not 4 (Operand.tmp 37), type := 4, pos := "head.go:68", after := #[{ on := 0, ground := Ground.data }], guard := none }) (v := ?_) rfl (by kernel_rfl) (by kernel_rfl) (by kernel_rfl) (fun _ _ _ h => h) (Or.inl ⟨by rfl, ?_⟩) hHeld ?_
              rotate_left
              · intro w hSw; (try dsimp only at hSw); (try go_split_ands); go_simp; (first | done | with_reducible rfl)
              (try simp only [Act.put, List.setIfInBounds_toArray, List.set_cons_zero, List.set_cons_succ])
              refine wpAnyH_take (i := 2) (oi := { dst := some 39, op := Op.move (Operand.tmp 38), type := 4, pos := "head.go:68", after := #[{ on := 1, ground := Ground.data }], guard := none }) (v := ?_) rfl (by kernel_rfl) (by kernel_rfl) (by kernel_rfl) (fun _ _ _ h => h) (Or.inl ⟨by rfl, ?_⟩) hHeld ?_
              rotate_left
              · intro w hSw; (try dsimp only at hSw); (try go_split_ands); go_simp; (first | done | with_reducible rfl)
              (try simp only [Act.put, List.setIfInBounds_toArray, List.set_cons_zero, List.set_cons_succ])
              refine wpAnyH_take (i := 3) (oi := { dst := some 40, op := Op.move (Operand.tmp 6), type := 211, pos := "head.go:68", after := #[{ on := 2, ground := Ground.guard }], guard := some (2, false) }) (v := ?_) rfl (by kernel_rfl) (by kernel_rfl) (by kernel_rfl) (fun _ _ _ h => h) (Or.inl ⟨by rfl, ?_⟩) hHeld ?_
              rotate_left
              · intro w hSw; (try dsimp only at hSw); (try go_split_ands); go_simp; (first | done | with_reducible rfl)
              (try simp only [Act.put, List.setIfInBounds_toArray, List.set_cons_zero, List.set_cons_succ])
              refine wpAnyH_take (i := 4) (oi := { dst := some 41, op := Op.move (Operand.tmp 0), type := 41, pos := "head.go:68", after := #[{ on := 2, ground := Ground.guard }], guard := some (2, false) }) (v := ?_) rfl (by kernel_rfl) (by kernel_rfl) (by kernel_rfl) (fun _ _ _ h => h) (Or.inl ⟨by rfl, ?_⟩) hHeld ?_
              rotate_left
              · intro w hSw; (try dsimp only at hSw); (try go_split_ands); go_simp; (first | done | with_reducible rfl)
              (try simp only [Act.put, List.setIfInBounds_toArray, List.set_cons_zero, List.set_cons_succ])
              refine wpAnyH_take (i := 5) (oi := { dst := some 42, op := Op.move (Operand.tmp 7), type := 3, pos := "head.go:68", after := #[{ on := 2, ground := Ground.guard }], guard := some (2, false) }) (v := ?_) rfl (by kernel_rfl) (by kernel_rfl) (by kernel_rfl) (fun _ _ _ h => h) (Or.inl ⟨by rfl, ?_⟩) hHeld ?_
              rotate_left
              · intro w hSw; (try dsimp only at hSw); (try go_split_ands); go_simp; (first | done | with_reducible rfl)
              (try simp only [Act.put, List.setIfInBounds_toArray, List.set_cons_zero, List.set_cons_succ])
              refine wpAnyH_take (i := 6) (oi := { dst := some 43, op := Op.indexAddr 41 (Operand.tmp 41) (Operand.tmp 42), type := 0, pos := "head.go:68", after := #[{ on := 4, ground := Ground.data }, { on := 5, ground := Ground.data }, { on := 2, ground := Ground.guard }], guard := some (2, false) }) (v := ?_) rfl (by kernel_rfl) (by kernel_rfl) (by kernel_rfl) (fun _ _ _ h => h) (Or.inl ⟨by rfl, ?_⟩) hHeld ?_
              rotate_left
              · intro w hSw; (try dsimp only at hSw); (try go_split_ands); go_simp; (first | done | with_reducible rfl)
              (try simp only [Act.put, List.setIfInBounds_toArray, List.set_cons_zero, List.set_cons_succ])
              refine wpAnyH_take (i := 7) (oi := { dst := some 44, op := Op.fieldAddr 63 (Operand.tmp 43) 0, type := 0, pos := "head.go:68", after := #[{ on := 6, ground := Ground.data }, { on := 2, ground := Ground.guard }], guard := some (2, false) }) (v := ?_) rfl (by kernel_rfl) (by kernel_rfl) (by kernel_rfl) (fun _ _ _ h => h) (Or.inl ⟨by rfl, ?_⟩) hHeld ?_
              rotate_left
              · intro w hSw; (try dsimp only at hSw); (try go_split_ands); go_simp; (first | done | with_reducible rfl)
              (try simp only [Act.put, List.setIfInBounds_toArray, List.set_cons_zero, List.set_cons_succ])
              refine wpAnyH_take (i := 8) (oi := { dst := some 45, op := Op.load 9 (Operand.tmp 44), type := 9, pos := "head.go:68", after := #[{ on := 7, ground := Ground.data }, { on := 2, ground := Ground.guard }], guard := some (2, false) }) (v := ?_) rfl (by kernel_rfl) (by kernel_rfl) (by kernel_rfl) (fun _ _ _ h => h) (Or.inl ⟨by rfl, ?_⟩) hHeld ?_
              rotate_left
              · intro w hSw; (try dsimp only at hSw); (try go_split_ands); go_simp; (first | done | with_reducible rfl)
              (try simp only [Act.put, List.setIfInBounds_toArray, List.set_cons_zero, List.set_cons_succ])
              refine wpAnyH_take (i := 9) (oi := { dst := some 46, op := Op.lookup 211 (Operand.tmp 40) (Operand.tmp 45) false, type := 4, pos := "head.go:68", after := #[{ on := 3, ground := Ground.data }, { on := 8, ground := Ground.data }, { on := 2, ground := Ground.guard }], guard := some (2, false) }) (v := ?_) rfl (by kernel_rfl) (by kernel_rfl) (by kernel_rfl) (fun _ _ _ h => h) (Or.inl ⟨by rfl, ?_⟩) hHeld ?_
              rotate_left
              · intro w hSw; (try dsimp only at hSw); (try go_split_ands); go_simp; (first | done | with_reducible rfl)
              (try simp only [Act.put, List.setIfInBounds_toArray, List.set_cons_zero, List.set_cons_succ])
              refine wpAnyH_take (i := 10) (oi := { dst := some 47, op := Op.pick (Operand.tmp 39) (Operand.const (Value.bool true)) (Operand.tmp 46), type := 4, pos := "head.go:68", after := #[{ on := 2, ground := Ground.data }, { on := 9, ground := Ground.data }], guard := none }) (v := ?_) rfl (by kernel_rfl) (by kernel_rfl) (by kernel_rfl) (fun _ _ _ h => h) (Or.inl ⟨by rfl, ?_⟩) hHeld ?_
              rotate_left
              · intro w hSw; (try dsimp only at hSw); (try go_split_ands); go_simp; (first | done | with_reducible rfl)
              (try simp only [Act.put, List.setIfInBounds_toArray, List.set_cons_zero, List.set_cons_succ])
              refine wpAnyH_take (i := 11) (oi := { dst := some 48, op := Op.move (Operand.tmp 47), type := 4, pos := "head.go:68", after := #[{ on := 10, ground := Ground.data }, { on := 2, ground := Ground.chain }], guard := none }) (v := ?_) rfl (by kernel_rfl) (by kernel_rfl) (by kernel_rfl) (fun _ _ _ h => h) (Or.inl ⟨by rfl, ?_⟩) hHeld ?_
              rotate_left
              · intro w hSw; (try dsimp only at hSw); (try go_split_ands); go_simp; (first | done | with_reducible rfl)
              (try simp only [Act.put, List.setIfInBounds_toArray, List.set_cons_zero, List.set_cons_succ])
              refine wpAnyH_take (i := 12) (oi := { dst := some 49, op := Op.move (Operand.tmp 0), type := 41, pos := "head.go:68", after := #[{ on := 11, ground := Ground.guard }], guard := some (11, false) }) (v := ?_) rfl (by kernel_rfl) (by kernel_rfl) (by kernel_rfl) (fun _ _ _ h => h) (Or.inl ⟨by rfl, ?_⟩) hHeld ?_
              rotate_left
              · intro w hSw; (try dsimp only at hSw); (try go_split_ands); go_simp; (first | done | with_reducible rfl)
              (try simp only [Act.put, List.setIfInBounds_toArray, List.set_cons_zero, List.set_cons_succ])
              refine wpAnyH_take (i := 13) (oi := { dst := some 50, op := Op.move (Operand.tmp 7), type := 3, pos := "head.go:68", after := #[{ on := 11, ground := Ground.guard }], guard := some (11, false) }) (v := ?_) rfl (by kernel_rfl) (by kernel_rfl) (by kernel_rfl) (fun _ _ _ h => h) (Or.inl ⟨by rfl, ?_⟩) hHeld ?_
              rotate_left
              · intro w hSw; (try dsimp only at hSw); (try go_split_ands); go_simp; (first | done | with_reducible rfl)
              (try simp only [Act.put, List.setIfInBounds_toArray, List.set_cons_zero, List.set_cons_succ])
              refine wpAnyH_take (i := 14) (oi := { dst := some 51, op := Op.indexAddr 41 (Operand.tmp 49) (Operand.tmp 50), type := 0, pos := "head.go:68", after := #[{ on := 12, ground := Ground.data }, { on := 13, ground := Ground.data }, { on := 11, ground := Ground.guard }], guard := some (11, false) }) (v := ?_) rfl (by kernel_rfl) (by kernel_rfl) (by kernel_rfl) (fun _ _ _ h => h) (Or.inl ⟨by rfl, ?_⟩) hHeld ?_
              rotate_left
              · intro w hSw; (try dsimp only at hSw); (try go_split_ands); go_simp; (first | done | with_reducible rfl)
              (try simp only [Act.put, List.setIfInBounds_toArray, List.set_cons_zero, List.set_cons_succ])
              refine wpAnyH_take (i := 15) (oi := { dst := some 52, op := Op.fieldAddr 63 (Operand.tmp 51) 1, type := 0, pos := "head.go:68", after := #[{ on := 14, ground := Ground.data }, { on := 11, ground := Ground.guard }], guard := some (11, false) }) (v := ?_) rfl (by kernel_rfl) (by kernel_rfl) (by kernel_rfl) (fun _ _ _ h => h) (Or.inl ⟨by rfl, ?_⟩) hHeld ?_
              rotate_left
              · intro w hSw; (try dsimp only at hSw); (try go_split_ands); go_simp; (first | done | with_reducible rfl)
              (try simp only [Act.put, List.setIfInBounds_toArray, List.set_cons_zero, List.set_cons_succ])
              refine wpAnyH_take (i := 16) (oi := { dst := some 53, op := Op.load 9 (Operand.tmp 52), type := 9, pos := "head.go:68", after := #[{ on := 15, ground := Ground.data }, { on := 11, ground := Ground.guard }], guard := some (11, false) }) (v := ?_) rfl (by kernel_rfl) (by kernel_rfl) (by kernel_rfl) (fun _ _ _ h => h) (Or.inl ⟨by rfl, ?_⟩) hHeld ?_
              rotate_left
              · intro w hSw; (try dsimp only at hSw); (try go_split_ands); go_simp; (first | done | with_reducible rfl)
              (try simp only [Act.put, List.setIfInBounds_toArray, List.set_cons_zero, List.set_cons_succ])
              refine wpAnyH_ready (rs := [17]) (by kernel_rfl) (by simp) ?_
              refine AllReadyH.cons (o := { dst := some 54, op := Op.call { callee := Callee.value (Operand.func 132), args := #[Operand.tmp 53], argTypes := #[9] }, type := 4, pos := "head.go:68", after := #[{ on := 16, ground := Ground.data }, { on := 11, ground := Ground.chain }, { on := 11, ground := Ground.guard }], guard := some (11, false) }) rfl (fun K hK => ?_) AllReadyH.nil
              go_simp
              refine (HV.out _).mono ?_
              rintro e w6 ⟨rfl, g6⟩
              have hb6 : Below wr.heap.size wr w6 := HB1.out.1.trans (below_of_drew g6 |>.mono (by simp))
              have hB6 : Blk w6 wr.heap.size 170 #[.bool rm, .func (.func K0) f0 p0] := (HB1.out.2.drewN 1).below g6 (by simp)
              have hk6 := HT.out w6 hb6 hB6
              have HB6 := Lib.hid (And.intro hb6 hB6)
              have HK6 := Lib.hid hk6
              clear g6 hb6 hB6 hk6
              (try go_simp)
              refine hK.out _ _ HK6.out (fun hHeld2 => ?_)
              clear hHeld
              have hHeld := hHeld2
              clear hHeld2 hK K
              (try simp only [Act.put, List.setIfInBounds_toArray, List.set_cons_zero, List.set_cons_succ])
              refine wpAnyH_take (i := 18) (oi := { dst := some 55, op := Op.unOp UnOp.not 4 (Operand.tmp 54), type := 4, pos := "head.go:68", after := #[{ on := 17, ground := Ground.data }, { on := 11, ground := Ground.guard }], guard := some (11, false) }) (v := ?_) rfl (by kernel_rfl) (by kernel_rfl) (by kernel_rfl) (fun _ _ _ h => h) (Or.inl ⟨by rfl, ?_⟩) hHeld ?_
              rotate_left
              · intro w hSw; (try dsimp only at hSw); (try go_split_ands); go_simp; (first | done | with_reducible rfl)
              (try simp only [Act.put, List.setIfInBounds_toArray, List.set_cons_zero, List.set_cons_succ])
              refine wpAnyH_take (i := 19) (oi := { dst := some 56, op := Op.pick (Operand.tmp 48) (Operand.const (Value.bool true)) (Operand.tmp 55), type := 4, pos := "head.go:68", after := #[{ on := 11, ground := Ground.data }, { on := 18, ground := Ground.data }], guard := none }) (v := ?_) rfl (by kernel_rfl) (by kernel_rfl) (by kernel_rfl) (fun _ _ _ h => h) (Or.inl ⟨by rfl, ?_⟩) hHeld ?_
              rotate_left
              · intro w hSw; (try dsimp only at hSw); (try go_split_ands); go_simp; (first | done | with_reducible rfl)
              (try simp only [Act.put, List.setIfInBounds_toArray, List.set_cons_zero, List.set_cons_succ])
              refine wpAnyH_take (i := 20) (oi := { dst := some 57, op := Op.move (Operand.tmp 56), type := 4, pos := "head.go:68", after := #[{ on := 19, ground := Ground.data }, { on := 17, ground := Ground.chain }], guard := none }) (v := ?_) rfl (by kernel_rfl) (by kernel_rfl) (by kernel_rfl) (fun _ _ _ h => h) (Or.inl ⟨by rfl, ?_⟩) hHeld ?_
              rotate_left
              · intro w hSw; (try dsimp only at hSw); (try go_split_ands); go_simp; (first | done | with_reducible rfl)
              (try simp only [Act.put, List.setIfInBounds_toArray, List.set_cons_zero, List.set_cons_succ])
              refine wpAnyH_take (i := 21) (oi := { dst := some 58, op := Op.fieldAddr 170 (Operand.tmp 8) 1, type := 0, pos := "head.go:68", after := #[{ on := 20, ground := Ground.guard }], guard := some (20, false) }) (v := ?_) rfl (by kernel_rfl) (by kernel_rfl) (by kernel_rfl) (fun _ _ _ h => h) (Or.inl ⟨by rfl, ?_⟩) hHeld ?_
              rotate_left
              · intro w hSw; (try dsimp only at hSw); (try go_split_ands); go_simp; (first | done | with_reducible rfl)
              (try simp only [Act.put, List.setIfInBounds_toArray, List.set_cons_zero, List.set_cons_succ])
              refine wpAnyH_take (i := 22) (oi := { dst := some 59, op := Op.load 111 (Operand.tmp 58), type := 111, pos := "head.go:68", after := #[{ on := 21, ground := Ground.data }, { on := 20, ground := Ground.guard }], guard := some (20, false) }) (v := ?_) rfl (by kernel_rfl) (by kernel_rfl) (by kernel_rfl) (fun _ _ _ h => h) (Or.inl ⟨by rfl, ?_⟩) hHeld ?_
              rotate_left
              · intro w hSw; (try dsimp only at hSw); (try go_split_ands); go_simp; (first | done | with_reducible rfl)
              (try simp only [Act.put, List.setIfInBounds_toArray, List.set_cons_zero, List.set_cons_succ])
              refine wpAnyH_take (i := 23) (oi := { dst := some 60, op := Op.move (Operand.tmp 0), type := 41, pos := "head.go:68", after := #[{ on := 20, ground := Ground.guard }], guard := some (20, false) }) (v := ?_) rfl (by kernel_rfl) (by kernel_rfl) (by kernel_rfl) (fun _ _ _ h => h) (Or.inl ⟨by rfl, ?_⟩) hHeld ?_
              rotate_left
              · intro w hSw; (try dsimp only at hSw); (try go_split_ands); go_simp; (first | done | with_reducible rfl)
              (try simp only [Act.put, List.setIfInBounds_toArray, List.set_cons_zero, List.set_cons_succ])
              refine wpAnyH_take (i := 24) (oi := { dst := some 61, op := Op.move (Operand.tmp 7), type := 3, pos := "head.go:68", after := #[{ on := 20, ground := Ground.guard }], guard := some (20, false) }) (v := ?_) rfl (by kernel_rfl) (by kernel_rfl) (by kernel_rfl) (fun _ _ _ h => h) (Or.inl ⟨by rfl, ?_⟩) hHeld ?_
              rotate_left
              · intro w hSw; (try dsimp only at hSw); (try go_split_ands); go_simp; (first | done | with_reducible rfl)
              (try simp only [Act.put, List.setIfInBounds_toArray, List.set_cons_zero, List.set_cons_succ])
              refine wpAnyH_take (i := 25) (oi := { dst := some 62, op := Op.indexAddr 41 (Operand.tmp 60) (Operand.tmp 61), type := 0, pos := "head.go:68", after := #[{ on := 23, ground := Ground.data }, { on := 24, ground := Ground.data }, { on := 20, ground := Ground.guard }], guard := some (20, false) }) (v := ?_) rfl (by kernel_rfl) (by kernel_rfl) (by kernel_rfl) (fun _ _ _ h => h) (Or.inl ⟨by rfl, ?_⟩) hHeld ?_
              rotate_left
              · intro w hSw; (try dsimp only at hSw); (try go_split_ands); go_simp; (first | done | with_reducible rfl)
              (try simp only [Act.put, List.setIfInBounds_toArray, List.set_cons_zero, List.set_cons_succ])
              refine wpAnyH_take (i := 26) (oi := { dst := some 63, op := Op.fieldAddr 63 (Operand.tmp 62) 1, type := 0, pos := "head.go:68", after := #[{ on := 25, ground := Ground.data }, { on := 20, ground := Ground.guard }], guard := some (20, false) }) (v := ?_) rfl (by kernel_rfl) (by kernel_rfl) (by kernel_rfl) (fun _ _ _ h => h) (Or.inl ⟨by rfl, ?_⟩) hHeld ?_
              rotate_left
              · intro w hSw; (try dsimp only at hSw); (try go_split_ands); go_simp; (first | done | with_reducible rfl)
              (try simp only [Act.put, List.setIfInBounds_toArray, List.set_cons_zero, List.set_cons_succ])
              refine wpAnyH_take (i := 27) (oi := { dst := some 64, op := Op.load 9 (Operand.tmp 63), type := 9, pos := "head.go:68", after := #[{ on := 26, ground := Ground.data }, { on := 20, ground := Ground.guard }], guard := some (20, false) }) (v := ?_) rfl (by kernel_rfl) (by kernel_rfl) (by kernel_rfl) (fun _ _ _ h => h) (Or.inl ⟨by rfl, ?_⟩) hHeld ?_
              rotate_left
              · intro w hSw; (try dsimp only at hSw); (try go_split_ands); go_simp; (first | done | with_reducible rfl)
              (try simp only [Act.put, List.setIfInBounds_toArray, List.set_cons_zero, List.set_cons_succ])
              refine wpAnyH_ready (rs := [28]) (by kernel_rfl) (by simp) ?_
              refine AllReadyH.cons (o := { dst := some 65, op := Op.call { callee := Callee.value (Operand.tmp 59), args := #[Operand.tmp 64], argTypes := #[9] }, type := 4, pos := "head.go:68", after := #[{ on := 22, ground := Ground.data }, { on := 27, ground := Ground.data }, { on := 20, ground := Ground.chain }, { on := 20, ground := Ground.guard }], guard := some (20, false) }) rfl (fun K hK => ?_) AllReadyH.nil
              go_simp
              refine (HTk2.out w6 (HJ.out.more HB6.out.1) HB6.out.1).mono ?_
              rintro e w7 ⟨rfl, g7⟩
              have HTn := Lib.hid ((HJ.out.more HB6.out.1).turned HC.out g7.out.2 g7.out.1)
              have hk7 := sp_t HTn.out HC.out HX.out hlt (by omega) (HB6.out.2.grown g7.out.2 (by have h1 := HC.out.lg; have h2 := HJ.out.grown.size; intro e; injection e with e; omega))
              rw [HMT.out] at hk7
              have HK7 := Lib.hid hk7
              clear hk7 g7
              (try go_simp)
              refine hK.out _ _ HK7.out (fun hHeld2 => ?_)
              clear hHeld
              have hHeld := hHeld2
              clear hHeld2 hK K
              (try simp only [Act.put, List.setIfInBounds_toArray, List.set_cons_zero, List.set_cons_succ])
              refine wpAnyH_take (i := 29) (oi := { dst := some 66, op := Op.unOp UnOp.not 4 (Operand.tmp 65), type := 4, pos := "head.go:68", after := #[{ on := 28, ground := Ground.data }, { on := 20, ground := Ground.guard }], guard := some (20, false) }) (v := ?_) rfl (by kernel_rfl) (by kernel_rfl) (by kernel_rfl) (fun _ _ _ h => h) (Or.inl ⟨by rfl, ?_⟩) hHeld ?_
              rotate_left
              · intro w hSw; (try dsimp only at hSw); (try go_split_ands); go_simp; (first | done | with_reducible rfl)
              (try simp only [Act.put, List.setIfInBounds_toArray, List.set_cons_zero, List.set_cons_succ])
              refine wpAnyH_take (i := 30) (oi := { dst := some 67, op := Op.pick (Operand.tmp 57) (Operand.const (Value.bool true)) (Operand.tmp 66), type := 4, pos := "head.go:68", after := #[{ on := 20, ground := Ground.data }, { on := 29, ground := Ground.data }], guard := none }) (v := ?_) rfl (by kernel_rfl) (by kernel_rfl) (by kernel_rfl) (fun _ _ _ h => h) (Or.inl ⟨by rfl, ?_⟩) hHeld ?_
              rotate_left
              · intro w hSw; (try dsimp only at hSw); (try go_split_ands); go_simp; (first | done | with_reducible rfl)
              (try simp only [Act.put, List.setIfInBounds_toArray, List.set_cons_zero, List.set_cons_succ])
              refine wpAnyH_done (by kernel_rfl) ?_ _
              refine NoPanic.normal ?_
              rcases tb with _ | _
              · have HN := Lib.hid (HBad.out (by rw [HStep.out]; rfl))
                go_wp2
                go_ret2
                exact ⟨HTn.out.1, .inl ⟨HN.out, _, _, _, rfl⟩⟩
              · have hc7 := HK7.out.1
                have HMM := Lib.hid HTn.out.2.2.2.1
                go_wp2_with ((with_reducible refine wpList_lay_met _ rfl (.tmp 68) (.tmp 73) (.const (.bool true)) rfl w.heap.size k ((l.take k).map nmOf) rfl HMM.out (by omega) xn (by simp only [maxLen]; omega) rfl rfl ?_); intro w8 hm8 hg8; have H8 := Lib.hid (And.intro hm8 hg8); clear hm8 hg8)
                go_roundw
                case rel => exact ⟨k + 1, hlt, by go_num, Lib.hid ⟨st', SpJ.met1 HTn.out HC.out (by rw [HL.out]; exact hlt) H8.out.2 (HR.out.alt hlt) (by rw [HX.out]; exact H8.out.1) HCol.out (by rw [HPre.out, HStep.out]; rfl)⟩⟩
                case measure => simp [intOf]; omega
          · have HN := Lib.hid (HBad.out (by rw [HStep.out]; rfl))
            clear hmet
            go_wp2_with ((with_reducible refine (HP.out _).mono ?_); rintro e w1 ⟨rfl, rfl⟩)
            have hb1 : Below wr.heap.size wr (wr.alloc (.cells #[.bool rm, .func (.func K0) f0 p0] 170)) := (Below.refl _ _).alloc (Nat.le_refl _) _
            have hB1 := Blk.new wr 170 #[.bool rm, .func (.func K0) f0 p0]
            have hk1 := (by have h := sp_s (HJ.out.more (below_drewN hb1 1)) HX.out hlt (by omega) (hB1.drewN 1); rw [HMT.out] at h; exact ⟨h.1, h.2.2.2⟩ : (wr.alloc (.cells #[.bool rm, .func (.func K0) f0 p0] 170)).drew.cell? (ad.add (k * 3)) = some (.string xn) ∧ (Instr.lookup 211 (.map (some w.heap.size)) (.string xn) false).run Tryz.prog (wr.alloc (.cells #[.bool rm, .func (.func K0) f0 p0] 170)).drew = .ok (.bool true) (wr.alloc (.cells #[.bool rm, .func (.func K0) f0 p0] 170)).drew)
            have HG := Lib.hid (HJ.out.more (below_drewN hb1 1)).grown
            have HK1 := Lib.hid hk1
            clear hb1 hB1 hk1 hrun a0 a1
            refine wp_region_noPanic ?_
            refine wp_region_held_drew (S := fun w' => w'.cell? (ad.add (k * 3)) = some (.string xn) ∧ (Instr.lookup 211 (.map (some w.heap.size)) (.string xn) false).run Tryz.prog w' = .ok (.bool true) w') (by kernel_rfl) HK1.out (fun hHeld => ?_)
            refine wpAnyH_take (i := 0) (oi := { dst := some 37, op := Op.move (Operand.tmp 9), type := 4, pos := "head.go:68", after := #[], guard := none }) (v := ?_) rfl (by kernel_rfl) (by kernel_rfl) (by kernel_rfl) (fun _ _ _ h => h) (Or.inl ⟨by rfl, ?_⟩) hHeld ?_
            rotate_left
            · intro w hSw; (try dsimp only at hSw); (try go_split_ands); go_simp; (first | done | with_reducible rfl)
            (try simp only [Act.put, List.setIfInBounds_toArray, List.set_cons_zero, List.set_cons_succ])
            refine wpAnyH_take (i := 1) (oi := { dst := some 38, op := Op.unOp UnOp.not 4 (Operand.tmp 37), type := 4, pos := "head.go:68", after := #[{ on := 0, ground := Ground.data }], guard := none }) (v := ?_) rfl (by kernel_rfl) (by kernel_rfl) (by kernel_rfl) (fun _ _ _ h => h) (Or.inl ⟨by rfl, ?_⟩) hHeld ?_
            rotate_left
            · intro w hSw; (try dsimp only at hSw); (try go_split_ands); go_simp; (first | done | with_reducible rfl)
            (try simp only [Act.put, List.setIfInBounds_toArray, List.set_cons_zero, List.set_cons_succ])
            refine wpAnyH_take (i := 2) (oi := { dst := some 39, op := Op.move (Operand.tmp 38), type := 4, pos := "head.go:68", after := #[{ on := 1, ground := Ground.data }], guard := none }) (v := ?_) rfl (by kernel_rfl) (by kernel_rfl) (by kernel_rfl) (fun _ _ _ h => h) (Or.inl ⟨by rfl, ?_⟩) hHeld ?_
            rotate_left
            · intro w hSw; (try dsimp only at hSw); (try go_split_ands); go_simp; (first | done | with_reducible rfl)
            (try simp only [Act.put, List.setIfInBounds_toArray, List.set_cons_zero, List.set_cons_succ])
            refine wpAnyH_take (i := 3) (oi := { dst := some 40, op := Op.move (Operand.tmp 6), type := 211, pos := "head.go:68", after := #[{ on := 2, ground := Ground.guard }], guard := some (2, false) }) (v := ?_) rfl (by kernel_rfl) (by kernel_rfl) (by kernel_rfl) (fun _ _ _ h => h) (Or.inl ⟨by rfl, ?_⟩) hHeld ?_
            rotate_left
            · intro w hSw; (try dsimp only at hSw); (try go_split_ands); go_simp; (first | done | with_reducible rfl)
            (try simp only [Act.put, List.setIfInBounds_toArray, List.set_cons_zero, List.set_cons_succ])
            refine wpAnyH_take (i := 4) (oi := { dst := some 41, op := Op.move (Operand.tmp 0), type := 41, pos := "head.go:68", after := #[{ on := 2, ground := Ground.guard }], guard := some (2, false) }) (v := ?_) rfl (by kernel_rfl) (by kernel_rfl) (by kernel_rfl) (fun _ _ _ h => h) (Or.inl ⟨by rfl, ?_⟩) hHeld ?_
            rotate_left
            · intro w hSw; (try dsimp only at hSw); (try go_split_ands); go_simp; (first | done | with_reducible rfl)
            (try simp only [Act.put, List.setIfInBounds_toArray, List.set_cons_zero, List.set_cons_succ])
            refine wpAnyH_take (i := 5) (oi := { dst := some 42, op := Op.move (Operand.tmp 7), type := 3, pos := "head.go:68", after := #[{ on := 2, ground := Ground.guard }], guard := some (2, false) }) (v := ?_) rfl (by kernel_rfl) (by kernel_rfl) (by kernel_rfl) (fun _ _ _ h => h) (Or.inl ⟨by rfl, ?_⟩) hHeld ?_
            rotate_left
            · intro w hSw; (try dsimp only at hSw); (try go_split_ands); go_simp; (first | done | with_reducible rfl)
            (try simp only [Act.put, List.setIfInBounds_toArray, List.set_cons_zero, List.set_cons_succ])
            refine wpAnyH_take (i := 6) (oi := { dst := some 43, op := Op.indexAddr 41 (Operand.tmp 41) (Operand.tmp 42), type := 0, pos := "head.go:68", after := #[{ on := 4, ground := Ground.data }, { on := 5, ground := Ground.data }, { on := 2, ground := Ground.guard }], guard := some (2, false) }) (v := ?_) rfl (by kernel_rfl) (by kernel_rfl) (by kernel_rfl) (fun _ _ _ h => h) (Or.inl ⟨by rfl, ?_⟩) hHeld ?_
            rotate_left
            · intro w hSw; (try dsimp only at hSw); (try go_split_ands); go_simp; (first | done | with_reducible rfl)
            (try simp only [Act.put, List.setIfInBounds_toArray, List.set_cons_zero, List.set_cons_succ])
            refine wpAnyH_take (i := 7) (oi := { dst := some 44, op := Op.fieldAddr 63 (Operand.tmp 43) 0, type := 0, pos := "head.go:68", after := #[{ on := 6, ground := Ground.data }, { on := 2, ground := Ground.guard }], guard := some (2, false) }) (v := ?_) rfl (by kernel_rfl) (by kernel_rfl) (by kernel_rfl) (fun _ _ _ h => h) (Or.inl ⟨by rfl, ?_⟩) hHeld ?_
            rotate_left
            · intro w hSw; (try dsimp only at hSw); (try go_split_ands); go_simp; (first | done | with_reducible rfl)
            (try simp only [Act.put, List.setIfInBounds_toArray, List.set_cons_zero, List.set_cons_succ])
            refine wpAnyH_take (i := 8) (oi := { dst := some 45, op := Op.load 9 (Operand.tmp 44), type := 9, pos := "head.go:68", after := #[{ on := 7, ground := Ground.data }, { on := 2, ground := Ground.guard }], guard := some (2, false) }) (v := ?_) rfl (by kernel_rfl) (by kernel_rfl) (by kernel_rfl) (fun _ _ _ h => h) (Or.inl ⟨by rfl, ?_⟩) hHeld ?_
            rotate_left
            · intro w hSw; (try dsimp only at hSw); (try go_split_ands); go_simp; (first | done | with_reducible rfl)
            (try simp only [Act.put, List.setIfInBounds_toArray, List.set_cons_zero, List.set_cons_succ])
            refine wpAnyH_take (i := 9) (oi := { dst := some 46, op := Op.lookup 211 (Operand.tmp 40) (Operand.tmp 45) false, type := 4, pos := "head.go:68", after := #[{ on := 3, ground := Ground.data }, { on := 8, ground := Ground.data }, { on := 2, ground := Ground.guard }], guard := some (2, false) }) (v := ?_) rfl (by kernel_rfl) (by kernel_rfl) (by kernel_rfl) (fun _ _ _ h => h) (Or.inl ⟨by rfl, ?_⟩) hHeld ?_
            rotate_left
            · intro w hSw; (try dsimp only at hSw); (try go_split_ands); go_simp; (first | done | with_reducible rfl)
            (try simp only [Act.put, List.setIfInBounds_toArray, List.set_cons_zero, List.set_cons_succ])
            refine wpAnyH_take (i := 10) (oi := { dst := some 47, op := Op.pick (Operand.tmp 39) (Operand.const (Value.bool true)) (Operand.tmp 46), type := 4, pos := "head.go:68", after := #[{ on := 2, ground := Ground.data }, { on := 9, ground := Ground.data }], guard := none }) (v := ?_) rfl (by kernel_rfl) (by kernel_rfl) (by kernel_rfl) (fun _ _ _ h => h) (Or.inl ⟨by rfl, ?_⟩) hHeld ?_
            rotate_left
            · intro w hSw; (try dsimp only at hSw); (try go_split_ands); go_simp; (first | done | with_reducible rfl)
            (try simp only [Act.put, List.setIfInBounds_toArray, List.set_cons_zero, List.set_cons_succ])
            refine wpAnyH_take (i := 11) (oi := { dst := some 48, op := Op.move (Operand.tmp 47), type := 4, pos := "head.go:68", after := #[{ on := 10, ground := Ground.data }, { on := 2, ground := Ground.chain }], guard := none }) (v := ?_) rfl (by kernel_rfl) (by kernel_rfl) (by kernel_rfl) (fun _ _ _ h => h) (Or.inl ⟨by rfl, ?_⟩) hHeld ?_
            rotate_left
            · intro w hSw; (try dsimp only at hSw); (try go_split_ands); go_simp; (first | done | with_reducible rfl)
            (try simp only [Act.put, List.setIfInBounds_toArray, List.set_cons_zero, List.set_cons_succ])
            refine wpAnyH_take (i := 12) (oi := { dst := some 49, op := Op.move (Operand.tmp 0), type := 41, pos := "head.go:68", after := #[{ on := 11, ground := Ground.guard }], guard := some (11, false) }) (v := undef) rfl (by kernel_rfl) (by kernel_rfl) (by kernel_rfl) (fun _ _ _ h => h) (Or.inr ⟨by rfl, rfl⟩) hHeld ?_
            (try simp only [Act.put, List.setIfInBounds_toArray, List.set_cons_zero, List.set_cons_succ])
            refine wpAnyH_take (i := 13) (oi := { dst := some 50, op := Op.move (Operand.tmp 7), type := 3, pos := "head.go:68", after := #[{ on := 11, ground := Ground.guard }], guard := some (11, false) }) (v := undef) rfl (by kernel_rfl) (by kernel_rfl) (by kernel_rfl) (fun _ _ _ h => h) (Or.inr ⟨by rfl, rfl⟩) hHeld ?_
            (try simp only [Act.put, List.setIfInBounds_toArray, List.set_cons_zero, List.set_cons_succ])
            refine wpAnyH_take (i := 14) (oi := { dst := some 51, op := Op.indexAddr 41 (Operand.tmp 49) (Operand.tmp 50), type := 0, pos := "head.go:68", after := #[{ on := 12, ground := Ground.data }, { on := 13, ground := Ground.data }, { on := 11, ground := Ground.guard }], guard := some (11, false) }) (v := undef) rfl (by kernel_rfl) (by kernel_rfl) (by kernel_rfl) (fun _ _ _ h => h) (Or.inr ⟨by rfl, rfl⟩) hHeld ?_
            (try simp only [Act.put, List.setIfInBounds_toArray, List.set_cons_zero, List.set_cons_succ])
            refine wpAnyH_take (i := 15) (oi := { dst := some 52, op := Op.fieldAddr 63 (Operand.tmp 51) 1, type := 0, pos := "head.go:68", after := #[{ on := 14, ground := Ground.data }, { on := 11, ground := Ground.guard }], guard := some (11, false) }) (v := undef) rfl (by kernel_rfl) (by kernel_rfl) (by kernel_rfl) (fun _ _ _ h => h) (Or.inr ⟨by rfl, rfl⟩) hHeld ?_
            (try simp only [Act.put, List.setIfInBounds_toArray, List.set_cons_zero, List.set_cons_succ])
            refine wpAnyH_take (i := 16) (oi := { dst := some 53, op := Op.load 9 (Operand.tmp 52), type := 9, pos := "head.go:68", after := #[{ on := 15, ground := Ground.data }, { on := 11, ground := Ground.guard }], guard := some (11, false) }) (v := undef) rfl (by kernel_rfl) (by kernel_rfl) (by kernel_rfl) (fun _ _ _ h => h) (Or.inr ⟨by rfl, rfl⟩) hHeld ?_
            (try simp only [Act.put, List.setIfInBounds_toArray, List.set_cons_zero, List.set_cons_succ])
            refine wpAnyH_take (i := 17) (oi := { dst := some 54, op := Op.call { callee := Callee.value (Operand.func 132), args := #[Operand.tmp 53], argTypes := #[9] }, type := 4, pos := "head.go:68", after := #[{ on := 16, ground := Ground.data }, { on := 11, ground := Ground.chain }, { on := 11, ground := Ground.guard }], guard := some (11, false) }) (v := undef) rfl (by kernel_rfl) (by kernel_rfl) (by kernel_rfl) (fun _ _ _ h => h) (Or.inr ⟨by rfl, rfl⟩) hHeld ?_
            (try simp only [Act.put, List.setIfInBounds_toArray, List.set_cons_zero, List.set_cons_succ])
            refine wpAnyH_take (i := 18) (oi := { dst := some 55, op := Op.unOp UnOp.not 4 (Operand.tmp 54), type := 4, pos := "head.go:68", after := #[{ on := 17, ground := Ground.data }, { on := 11, ground := Ground.guard }], guard := some (11, false) }) (v := undef) rfl (by kernel_rfl) (by kernel_rfl) (by kernel_rfl) (fun _ _ _ h => h) (Or.inr ⟨by rfl, rfl⟩) hHeld ?_
            (try simp only [Act.put, List.setIfInBounds_toArray, List.set_cons_zero, List.set_cons_succ])
            refine wpAnyH_take (i := 19) (oi := { dst := some 56, op := Op.pick (Operand.tmp 48) (Operand.const (Value.bool true)) (Operand.tmp 55), type := 4, pos := "head.go:68", after := #[{ on := 11, ground := Ground.data }, { on := 18, ground := Ground.data }], guard := none }) (v := ?_) rfl (by kernel_rfl) (by kernel_rfl) (by kernel_rfl) (fun _ _ _ h => h) (Or.inl ⟨by rfl, ?_⟩) hHeld ?_
            rotate_left
            · intro w hSw; (try dsimp only at hSw); (try go_split_ands); go_simp; (first | done | with_reducible rfl)
            (try simp only [Act.put, List.setIfInBounds_toArray, List.set_cons_zero, List.set_cons_succ])
            refine wpAnyH_take (i := 20) (oi := { dst := some 57, op := Op.move (Operand.tmp 56), type := 4, pos := "head.go:68", after := #[{ on := 19, ground := Ground.data }, { on := 17, ground := Ground.chain }], guard := none }) (v := ?_) rfl (by kernel_rfl) (by kernel_rfl) (by kernel_rfl) (fun _ _ _ h => h) (Or.inl ⟨by rfl, ?_⟩) hHeld ?_
            rotate_left
            · intro w hSw; (try dsimp only at hSw); (try go_split_ands); go_simp; (first | done | with_reducible rfl)
            (try simp only [Act.put, List.setIfInBounds_toArray, List.set_cons_zero, List.set_cons_succ])
            refine wpAnyH_take (i := 21) (oi := { dst := some 58, op := Op.fieldAddr 170 (Operand.tmp 8) 1, type := 0, pos := "head.go:68", after := #[{ on := 20, ground := Ground.guard }], guard := some (20, false) }) (v := undef) rfl (by kernel_rfl) (by kernel_rfl) (by kernel_rfl) (fun _ _ _ h => h) (Or.inr ⟨by rfl, rfl⟩) hHeld ?_
            (try simp only [Act.put, List.setIfInBounds_toArray, List.set_cons_zero, List.set_cons_succ])
            refine wpAnyH_take (i := 22) (oi := { dst := some 59, op := Op.load 111 (Operand.tmp 58), type := 111, pos := "head.go:68", after := #[{ on := 21, ground := Ground.data }, { on := 20, ground := Ground.guard }], guard := some (20, false) }) (v := undef) rfl (by kernel_rfl) (by kernel_rfl) (by kernel_rfl) (fun _ _ _ h => h) (Or.inr ⟨by rfl, rfl⟩) hHeld ?_
            (try simp only [Act.put, List.setIfInBounds_toArray, List.set_cons_zero, List.set_cons_succ])
            refine wpAnyH_take (i := 23) (oi := { dst := some 60, op := Op.move (Operand.tmp 0), type := 41, pos := "head.go:68", after := #[{ on := 20, ground := Ground.guard }], guard := some (20, false) }) (v := undef) rfl (by kernel_rfl) (by kernel_rfl) (by kernel_rfl) (fun _ _ _ h => h) (Or.inr ⟨by rfl, rfl⟩) hHeld ?_
            (try simp only [Act.put, List.setIfInBounds_toArray, List.set_cons_zero, List.set_cons_succ])
            refine wpAnyH_take (i := 24) (oi := { dst := some 61, op := Op.move (Operand.tmp 7), type := 3, pos := "head.go:68", after := #[{ on := 20, ground := Ground.guard }], guard := some (20, false) }) (v := undef) rfl (by kernel_rfl) (by kernel_rfl) (by kernel_rfl) (fun _ _ _ h => h) (Or.inr ⟨by rfl, rfl⟩) hHeld ?_
            (try simp only [Act.put, List.setIfInBounds_toArray, List.set_cons_zero, List.set_cons_succ])
            refine wpAnyH_take (i := 25) (oi := { dst := some 62, op := Op.indexAddr 41 (Operand.tmp 60) (Operand.tmp 61), type := 0, pos := "head.go:68", after := #[{ on := 23, ground := Ground.data }, { on := 24, ground := Ground.data }, { on := 20, ground := Ground.guard }], guard := some (20, false) }) (v := undef) rfl (by kernel_rfl) (by kernel_rfl) (by kernel_rfl) (fun _ _ _ h => h) (Or.inr ⟨by rfl, rfl⟩) hHeld ?_
            (try simp only [Act.put, List.setIfInBounds_toArray, List.set_cons_zero, List.set_cons_succ])
            refine wpAnyH_take (i := 26) (oi := { dst := some 63, op := Op.fieldAddr 63 (Operand.tmp 62) 1, type := 0, pos := "head.go:68", after := #[{ on := 25, ground := Ground.data }, { on := 20, ground := Ground.guard }], guard := some (20, false) }) (v := undef) rfl (by kernel_rfl) (by kernel_rfl) (by kernel_rfl) (fun _ _ _ h => h) (Or.inr ⟨by rfl, rfl⟩) hHeld ?_
            (try simp only [Act.put, List.setIfInBounds_toArray, List.set_cons_zero, List.set_cons_succ])
            refine wpAnyH_take (i := 27) (oi := { dst := some 64, op := Op.load 9 (Operand.tmp 63), type := 9, pos := "head.go:68", after := #[{ on := 26, ground := Ground.data }, { on := 20, ground := Ground.guard }], guard := some (20, false) }) (v := undef) rfl (by kernel_rfl) (by kernel_rfl) (by kernel_rfl) (fun _ _ _ h => h) (Or.inr ⟨by rfl, rfl⟩) hHeld ?_
            (try simp only [Act.put, List.setIfInBounds_toArray, List.set_cons_zero, List.set_cons_succ])
            refine wpAnyH_take (i := 28) (oi := { dst := some 65, op := Op.call { callee := Callee.value (Operand.tmp 59), args := #[Operand.tmp 64], argTypes := #[9] }, type := 4, pos := "head.go:68", after := #[{ on := 22, ground := Ground.data }, { on := 27, ground := Ground.data }, { on := 20, ground := Ground.chain }, { on := 20, ground := Ground.guard }], guard := some (20, false) }) (v := undef) rfl (by kernel_rfl) (by kernel_rfl) (by kernel_rfl) (fun _ _ _ h => h) (Or.inr ⟨by rfl, rfl⟩) hHeld ?_
            (try simp only [Act.put, List.setIfInBounds_toArray, List.set_cons_zero, List.set_cons_succ])
            refine wpAnyH_take (i := 29) (oi := { dst := some 66, op := Op.unOp UnOp.not 4 (Operand.tmp 65), type := 4, pos := "head.go:68", after := #[{ on := 28, ground := Ground.data }, { on := 20, ground := Ground.guard }], guard := some (20, false) }) (v := undef) rfl (by kernel_rfl) (by kernel_rfl) (by kernel_rfl) (fun _ _ _ h => h) (Or.inr ⟨by rfl, rfl⟩) hHeld ?_
            (try simp only [Act.put, List.setIfInBounds_toArray, List.set_cons_zero, List.set_cons_succ])
            refine wpAnyH_take (i := 30) (oi := { dst := some 67, op := Op.pick (Operand.tmp 57) (Operand.const (Value.bool true)) (Operand.tmp 66), type := 4, pos := "head.go:68", after := #[{ on := 20, ground := Ground.data }, { on := 29, ground := Ground.data }], guard := none }) (v := ?_) rfl (by kernel_rfl) (by kernel_rfl) (by kernel_rfl) (fun _ _ _ h => h) (Or.inl ⟨by rfl, ?_⟩) hHeld ?_
            rotate_left
            · intro w hSw; (try dsimp only at hSw); (try go_split_ands); go_simp; (first | done | with_reducible rfl)
            (try simp only [Act.put, List.setIfInBounds_toArray, List.set_cons_zero, List.set_cons_succ])
            refine wpAnyH_done (by kernel_rfl) ?_ _
            refine NoPanic.normal ?_
            go_wp2
            go_ret2
            exact ⟨HG.out, .inl ⟨HN.out, _, _, _, rfl⟩⟩
    · have HThr := Lib.hid (open_through (rs := rs.map (·.1)) (by rw [HL.out]; exact hk) HJ.out.col (.inl (by rw [HL.out]; omega)) HJ.out.pre)
      have HE2 := trivial
      obtain ⟨D, hown, hRD⟩ := HJ.out.rules
      have HOwn := Lib.hid hown
      have HRD := Lib.hid hRD
      clear hown hRD
      go_wp2_with ((with_reducible refine wpList_range_own _ rfl (.tmp 74) 172 rfl 9 170 keyed_str Tryz.underlying172 R6 mb nb D rfl HOwn.out ?_); intro w0 hrg0 hg0 hs0; have HR0 := Lib.hid (And.intro hrg0 (And.intro hg0 hs0)); clear hrg0 hg0 hs0)
      have HJ2 := Lib.hid (HJ.out.other HC.out HR.out (HR0.out.2.1.but _) (show w.heap.size < wr.heap.size from by have h1 := HJ.out.met.lt; omega))
      clear HE2
      go_frame
      obtain ⟨wo, rfl⟩ : ∃ wo : World, wo = wr := ⟨_, rfl⟩
      go_loopw [10] (fun _ wr => Hid (∃ (left : Lit → Bool) (cnt : Nat), wr.ranges Tryz.prog 9 R6 mb wo.heap.size nb D left cnt ∧ SpJ w g T cells rs A n l mb nb s0 k s wr ∧ ∀ nm r, rs.find? (fun q => q.1.name == nm) = some r → left (lt nm) = false → (!r.1.must || ((l.take k).map nmOf).contains nm) = true)) (fun _ wr => wr.rangeLeft mb wo.heap.size)
      case atStart => exact Lib.hid ⟨_, _, HR0.out.1, HJ2.out, fun nm r hf hl => by
        rw [((HRD.out.2 nm).2 r hf).1] at hl; cases hl⟩
      case round =>
        obtain ⟨left, cnt, hrg, hj2, hgood⟩ := hrel.out
        have HRg := Lib.hid hrg
        have HQ := Lib.hid hj2
        have HGd := Lib.hid hgood
        clear hrel hrg hj2 hgood
        go_wp2_with (with_reducible refine wpList_next_ranges _ rfl (.tmp 75) rfl 9 keyed_str R6 Value.string mkR key_str_inv val_inv mb wo.heap.size nb D left cnt rfl HRg.out ?_ ?_)
        · intro _ hl0
          have HM := Lib.hid (musts_true HND.out (fun nm r hf => HGd.out nm r hf (hl0 _)))
          have HOp := Lib.hid (HThr.out.trans (if_pos HM.out))
          clear hl0
          obtain ⟨A9, hA9, _, hcut⟩ := cut_h HQ.out.hr hk hnc
          obtain ⟨n9, hn9⟩ : ∃ x, n - k = x := ⟨_, rfl⟩
          obtain ⟨c9, hc9⟩ : ∃ x, c - k = x := ⟨_, rfl⟩
          rw [hn9] at hA9 hcut
          rw [hc9] at hcut
          have hn9b : n9 ≤ 100000 := by omega
          have HA9 := Lib.hid (fun W (hW : Below wr.heap.size wr W) => hA9.below hW)
          have HZ9 := Lib.hid (show Szs (l.drop k) from fun h hh => HZ.out h (List.mem_of_mem_drop hh))
          have HT9 := Lib.hid (fun W (hW : Below wr.heap.size wr W) => trailers_any A9 n9 c9 (l.drop k) W ((HQ.out.env HC.out HE.out).below hW (HQ.out.env HC.out HE.out).room) (by omega) (hA9.below hW) HZ9.out)
          have HL9 := Lib.hid hA9.1
          obtain ⟨l9, hl9⟩ : ∃ x, l.drop k = x := ⟨_, rfl⟩
          rw [hl9] at HA9 HT9 HOp HL9
          have HNb := Lib.hid hn9b
          clear hA9 hn9 hc9 hl9 hn9b HRg HZ9
          obtain ⟨b9, hb9⟩ : ∃ b, l9.all plainB = b := ⟨_, rfl⟩
          rw [hb9] at HT9 HOp
          have HD9 := Lib.hid (below_drewN (Below.refl wr.heap.size wr) 1)
          rcases b9 with _ | _
          · go_wp2
            refine wp_region_noPanic ?_
            refine wp_region_held_drew (S := fun _ => True) (by kernel_rfl) trivial (fun hHeld => ?_)
            refine wpAnyH_take (i := 0) (oi := { dst := some 89, op := Op.move (Operand.tmp 0), type := 41, pos := "head.go:78", after := #[], guard := none }) (v := ?_) rfl (by kernel_rfl) (by kernel_rfl) (by kernel_rfl) (fun _ _ _ h => h) (Or.inl ⟨by rfl, ?_⟩) hHeld ?_
            rotate_left
            · intro w hSw; (try dsimp only at hSw); (try go_split_ands); go_simp; (first | done | with_reducible rfl)
            (try simp only [Act.put, List.setIfInBounds_toArray, List.set_cons_zero, List.set_cons_succ])
            refine wpAnyH_take (i := 1) (oi := { dst := some 90, op := Op.move (Operand.tmp 7), type := 3, pos := "head.go:78", after := #[], guard := none }) (v := ?_) rfl (by kernel_rfl) (by kernel_rfl) (by kernel_rfl) (fun _ _ _ h => h) (Or.inl ⟨by rfl, ?_⟩) hHeld ?_
            rotate_left
            · intro w hSw; (try dsimp only at hSw); (try go_split_ands); go_simp; (first | done | with_reducible rfl)
            (try simp only [Act.put, List.setIfInBounds_toArray, List.set_cons_zero, List.set_cons_succ])
            refine wpAnyH_take (i := 2) (oi := { dst := some 91, op := Op.slice 41 (Operand.tmp 89) (some (Operand.tmp 90)) none none, type := 41, pos := "head.go:78", after := #[{ on := 0, ground := Ground.data }, { on := 1, ground := Ground.data }], guard := none }) (v := ?_) rfl (by kernel_rfl) (by kernel_rfl) (by kernel_rfl) (fun _ _ _ h => h) (Or.inl ⟨by rfl, ?_⟩) hHeld ?_
            rotate_left
            · intro w hSw; (try dsimp only at hSw); (try go_split_ands); go_simp; (first | done | with_reducible rfl)
            (try simp only [Act.put, List.setIfInBounds_toArray, List.set_cons_zero, List.set_cons_succ])
            refine wpAnyH_take (i := 4) (oi := { dst := some 93, op := Op.move (Operand.tmp 0), type := 41, pos := "head.go:78", after := #[], guard := none }) (v := ?_) rfl (by kernel_rfl) (by kernel_rfl) (by kernel_rfl) (fun _ _ _ h => h) (Or.inl ⟨by rfl, ?_⟩) hHeld ?_
            rotate_left
            · intro w hSw; (try dsimp only at hSw); (try go_split_ands); go_simp; (first | done | with_reducible rfl)
            (try simp only [Act.put, List.setIfInBounds_toArray, List.set_cons_zero, List.set_cons_succ])
            refine wpAnyH_take (i := 5) (oi := { dst := some 94, op := Op.move (Operand.tmp 7), type := 3, pos := "head.go:78", after := #[], guard := none }) (v := ?_) rfl (by kernel_rfl) (by kernel_rfl) (by kernel_rfl) (fun _ _ _ h => h) (Or.inl ⟨by rfl, ?_⟩) hHeld ?_
            rotate_left
            · intro w hSw; (try dsimp only at hSw); (try go_split_ands); go_simp; (first | done | with_reducible rfl)
            (try simp only [Act.put, List.setIfInBounds_toArray, List.set_cons_zero, List.set_cons_succ])
            refine wpAnyH_take (i := 6) (oi := { dst := some 95, op := Op.slice 41 (Operand.tmp 93) (some (Operand.tmp 94)) none none, type := 41, pos := "head.go:78", after := #[{ on := 4, ground := Ground.data }, { on := 5, ground := Ground.data }], guard := none }) (v := ?_) rfl (by kernel_rfl) (by kernel_rfl) (by kernel_rfl) (fun _ _ _ h => h) (Or.inl ⟨by rfl, ?_⟩) hHeld ?_
            rotate_left
            · intro w hSw; (try dsimp only at hSw); (try go_split_ands); go_simp; (first | done | with_reducible rfl)
            (try simp only [Act.put, List.setIfInBounds_toArray, List.set_cons_zero, List.set_cons_succ])
            refine wpAnyH_ready (rs := [3]) (by kernel_rfl) (by simp) ?_
            refine AllReadyH.cons (o := { dst := some 92, op := Op.call { callee := Callee.builtin Builtin.append, args := #[Operand.const (Value.slice none 0 0), Operand.tmp 91], argTypes := #[41, 41] }, type := 41, pos := "head.go:78", after := #[{ on := 2, ground := Ground.data }], guard := none }) rfl (fun K hK => ?_) AllReadyH.nil
            refine step_app_h _ (by rfl) (.tmp 91) (by rfl) A9 n9 c9 l9 (by rfl) (HA9.out _ HD9.out) HNb.out ?_
            intro A8 c8 wa hwa hba
            have HWa := Lib.hid (And.intro hwa (HD9.out.trans (hba.mono HD9.out.size)))
            clear hwa hba
            refine hK.out _ _ trivial (fun hHeld2 => ?_)
            clear hHeld
            have hHeld := hHeld2
            clear hHeld2 hK K
            (try simp only [Act.put, List.setIfInBounds_toArray, List.set_cons_zero, List.set_cons_succ])
            refine wpAnyH_ready (rs := [7]) (by kernel_rfl) (by simp) ?_
            refine AllReadyH.cons (o := { dst := some 96, op := Op.call { callee := Callee.value (Operand.func 133), args := #[Operand.tmp 95], argTypes := #[41] }, type := 28, pos := "head.go:78", after := #[{ on := 6, ground := Ground.data }, { on := 3, ground := Ground.chain }], guard := none }) rfl (fun K hK => ?_) AllReadyH.nil
            go_simp
            refine (HT9.out _ HWa.out.2).mono ?_
            rintro e wt ⟨rfl, gt⟩
            have HTb := Lib.hid gt
            clear gt
            (try simp only [errH, cond_true, cond_false])
            (try go_simp)
            refine hK.out _ _ trivial (fun hHeld2 => ?_)
            clear hHeld
            have hHeld := hHeld2
            clear hHeld2 hK K
            (try simp only [Act.put, List.setIfInBounds_toArray, List.set_cons_zero, List.set_cons_succ])
            refine wpAnyH_take (i := 8) (oi := { dst := some 97, op := Op.binOp BinOp.eql 28 (Operand.tmp 96) (Operand.const Value.nilIface) 28, type := 4, pos := "head.go:78", after := #[{ on := 7, ground := Ground.data }, { on := 9, ground := Ground.gcOnly Departure.lateStores }], guard := none }) (v := ?_) rfl (by kernel_rfl) (by kernel_rfl) (by kernel_rfl) (fun _ _ _ h => h) (Or.inl ⟨by rfl, ?_⟩) hHeld ?_
            rotate_left
            · intro w hSw; (try dsimp only at hSw); (try go_split_ands); go_simp; (first | done | with_reducible rfl)
            (try simp only [Act.put, List.setIfInBounds_toArray, List.set_cons_zero, List.set_cons_succ])
            refine wpAnyH_take (i := 9) (oi := { dst := some 4, op := Op.assign (Operand.tmp 92), type := 41, pos := "head.go:78", after := #[{ on := 3, ground := Ground.data }, { on := 7, ground := Ground.chain }, { on := 0, ground := Ground.phase }, { on := 1, ground := Ground.phase }, { on := 2, ground := Ground.phase }, { on := 3, ground := Ground.phase }, { on := 4, ground := Ground.textOnly Departure.lateStores }, { on := 5, ground := Ground.textOnly Departure.lateStores }, { on := 6, ground := Ground.textOnly Departure.lateStoresUnsure }, { on := 7, ground := Ground.textOnly Departure.lateStoresUnsure }, { on := 8, ground := Ground.textOnly Departure.lateStores }], guard := none }) (v := ?_) rfl (by kernel_rfl) (by kernel_rfl) (by kernel_rfl) (fun _ _ _ h => h) (Or.inl ⟨by rfl, ?_⟩) hHeld ?_
            rotate_left
            · intro w hSw; (try dsimp only at hSw); (try go_split_ands); go_simp; (first | done | with_reducible rfl)
            (try simp only [Act.put, List.setIfInBounds_toArray, List.set_cons_zero, List.set_cons_succ])
            refine wpAnyH_take (i := 10) (oi := { dst := some 5, op := Op.assign (Operand.tmp 97), type := 4, pos := "head.go:78", after := #[{ on := 8, ground := Ground.data }, { on := 9, ground := Ground.chain }, { on := 0, ground := Ground.phase }, { on := 1, ground := Ground.phase }, { on := 2, ground := Ground.phase }, { on := 3, ground := Ground.phase }, { on := 4, ground := Ground.phase }, { on := 5, ground := Ground.phase }, { on := 6, ground := Ground.phase }, { on := 7, ground := Ground.phase }, { on := 8, ground := Ground.phase }, { on := 9, ground := Ground.phase }], guard := none }) (v := ?_) rfl (by kernel_rfl) (by kernel_rfl) (by kernel_rfl) (fun _ _ _ h => h) (Or.inl ⟨by rfl, ?_⟩) hHeld ?_
            rotate_left
            · intro w hSw; (try dsimp only at hSw); (try go_split_ands); go_simp; (first | done | with_reducible rfl)
            (try simp only [Act.put, List.setIfInBounds_toArray, List.set_cons_zero, List.set_cons_succ])
            refine wpAnyH_done (by kernel_rfl) ?_ _
            refine NoPanic.normal ?_
            have HG9 := Lib.hid ((HQ.out.more (HWa.out.2.trans (HTb.out.mono HWa.out.2.size))).grown)
            have HW9 := Lib.hid (HWa.out.1.below HTb.out)
            have HB9 := Lib.hid ((HQ.out.more (HWa.out.2.trans (HTb.out.mono HWa.out.2.size))).st)
            go_wp2
            go_ret2
            exact ⟨HG9.out, .inl ⟨HOp.out, _, _, _, rfl⟩⟩
          · go_wp2
            refine wp_region_noPanic ?_
            refine wp_region_held_drew (S := fun _ => True) (by kernel_rfl) trivial (fun hHeld => ?_)
            refine wpAnyH_take (i := 0) (oi := { dst := some 89, op := Op.move (Operand.tmp 0), type := 41, pos := "head.go:78", after := #[], guard := none }) (v := ?_) rfl (by kernel_rfl) (by kernel_rfl) (by kernel_rfl) (fun _ _ _ h => h) (Or.inl ⟨by rfl, ?_⟩) hHeld ?_
            rotate_left
            · intro w hSw; (try dsimp only at hSw); (try go_split_ands); go_simp; (first | done | with_reducible rfl)
            (try simp only [Act.put, List.setIfInBounds_toArray, List.set_cons_zero, List.set_cons_succ])
            refine wpAnyH_take (i := 1) (oi := { dst := some 90, op := Op.move (Operand.tmp 7), type := 3, pos := "head.go:78", after := #[], guard := none }) (v := ?_) rfl (by kernel_rfl) (by kernel_rfl) (by kernel_rfl) (fun _ _ _ h => h) (Or.inl ⟨by rfl, ?_⟩) hHeld ?_
            rotate_left
            · intro w hSw; (try dsimp only at hSw); (try go_split_ands); go_simp; (first | done | with_reducible rfl)
            (try simp only [Act.put, List.setIfInBounds_toArray, List.set_cons_zero, List.set_cons_succ])
            refine wpAnyH_take (i := 2) (oi := { dst := some 91, op := Op.slice 41 (Operand.tmp 89) (some (Operand.tmp 90)) none none, type := 41, pos := "head.go:78", after := #[{ on := 0, ground := Ground.data }, { on := 1, ground := Ground.data }], guard := none }) (v := ?_) rfl (by kernel_rfl) (by kernel_rfl) (by kernel_rfl) (fun _ _ _ h => h) (Or.inl ⟨by rfl, ?_⟩) hHeld ?_
            rotate_left
            · intro w hSw; (try dsimp only at hSw); (try go_split_ands); go_simp; (first | done | with_reducible rfl)
            (try simp only [Act.put, List.setIfInBounds_toArray, List.set_cons_zero, List.set_cons_succ])
            refine wpAnyH_take (i := 4) (oi := { dst := some 93, op := Op.move (Operand.tmp 0), type := 41, pos := "head.go:78", after := #[], guard := none }) (v := ?_) rfl (by kernel_rfl) (by kernel_rfl) (by kernel_rfl) (fun _ _ _ h => h) (Or.inl ⟨by rfl, ?_⟩) hHeld ?_
            rotate_left
            · intro w hSw; (try dsimp only at hSw); (try go_split_ands); go_simp; (first | done | with_reducible rfl)
            (try simp only [Act.put, List.setIfInBounds_toArray, List.set_cons_zero, List.set_cons_succ])
            refine wpAnyH_take (i := 5) (oi := { dst := some 94, op := Op.move (Operand.tmp 7), type := 3, pos := "head.go:78", after := #[], guard := none }) (v := ?_) rfl (by kernel_rfl) (by kernel_rfl) (by kernel_rfl) (fun _ _ _ h => h) (Or.inl ⟨by rfl, ?_⟩) hHeld ?_
            rotate_left
            · intro w hSw; (try dsimp only at hSw); (try go_split_ands); go_simp; (first | done | with_reducible rfl)
            (try simp only [Act.put, List.setIfInBounds_toArray, List.set_cons_zero, List.set_cons_succ])
            refine wpAnyH_take (i := 6) (oi := { dst := some 95, op := Op.slice 41 (Operand.tmp 93) (some (Operand.tmp 94)) none none, type := 41, pos := "head.go:78", after := #[{ on := 4, ground := Ground.data }, { on := 5, ground := Ground.data }], guard := none }) (v := ?_) rfl (by kernel_rfl) (by kernel_rfl) (by kernel_rfl) (fun _ _ _ h => h) (Or.inl ⟨by rfl, ?_⟩) hHeld ?_
            rotate_left
            · intro w hSw; (try dsimp only at hSw); (try go_split_ands); go_simp; (first | done | with_reducible rfl)
            (try simp only [Act.put, List.setIfInBounds_toArray, List.set_cons_zero, List.set_cons_succ])
            refine wpAnyH_ready (rs := [3]) (by kernel_rfl) (by simp) ?_
            refine AllReadyH.cons (o := { dst := some 92, op := Op.call { callee := Callee.builtin Builtin.append, args := #[Operand.const (Value.slice none 0 0), Operand.tmp 91], argTypes := #[41, 41] }, type := 41, pos := "head.go:78", after := #[{ on := 2, ground := Ground.data }], guard := none }) rfl (fun K hK => ?_) AllReadyH.nil
            refine step_app_h _ (by rfl) (.tmp 91) (by rfl) A9 n9 c9 l9 (by rfl) (HA9.out _ HD9.out) HNb.out ?_
            intro A8 c8 wa hwa hba
            have HWa := Lib.hid (And.intro hwa (HD9.out.trans (hba.mono HD9.out.size)))
            clear hwa hba
            refine hK.out _ _ trivial (fun hHeld2 => ?_)
            clear hHeld
            have hHeld := hHeld2
            clear hHeld2 hK K
            (try simp only [Act.put, List.setIfInBounds_toArray, List.set_cons_zero, List.set_cons_succ])
            refine wpAnyH_ready (rs := [7]) (by kernel_rfl) (by simp) ?_
            refine AllReadyH.cons (o := { dst := some 96, op := Op.call { callee := Callee.value (Operand.func 133), args := #[Operand.tmp 95], argTypes := #[41] }, type := 28, pos := "head.go:78", after := #[{ on := 6, ground := Ground.data }, { on := 3, ground := Ground.chain }], guard := none }) rfl (fun K hK => ?_) AllReadyH.nil
            go_simp
            refine (HT9.out _ HWa.out.2).mono ?_
            rintro e wt ⟨rfl, gt⟩
            have HTb := Lib.hid gt
            clear gt
            (try simp only [errH, cond_true, cond_false])
            (try go_simp)
            refine hK.out _ _ trivial (fun hHeld2 => ?_)
            clear hHeld
            have hHeld := hHeld2
            clear hHeld2 hK K
            (try simp only [Act.put, List.setIfInBounds_toArray, List.set_cons_zero, List.set_cons_succ])
            refine wpAnyH_take (i := 8) (oi := { dst := some 97, op := Op.binOp BinOp.eql 28 (Operand.tmp 96) (Operand.const Value.nilIface) 28, type := 4, pos := "head.go:78", after := #[{ on := 7, ground := Ground.data }, { on := 9, ground := Ground.gcOnly Departure.lateStores }], guard := none }) (v := ?_) rfl (by kernel_rfl) (by kernel_rfl) (by kernel_rfl) (fun _ _ _ h => h) (Or.inl ⟨by rfl, ?_⟩) hHeld ?_
            rotate_left
            · intro w hSw; (try dsimp only at hSw); (try go_split_ands); go_simp; (first | done | with_reducible rfl)
            (try simp only [Act.put, List.setIfInBounds_toArray, List.set_cons_zero, List.set_cons_succ])
            refine wpAnyH_take (i := 9) (oi := { dst := some 4, op := Op.assign (Operand.tmp 92), type := 41, pos := "head.go:78", after := #[{ on := 3, ground := Ground.data }, { on := 7, ground := Ground.chain }, { on := 0, ground := Ground.phase }, { on := 1, ground := Ground.phase }, { on := 2, ground := Ground.phase }, { on := 3, ground := Ground.phase }, { on := 4, ground := Ground.textOnly Departure.lateStores }, { on := 5, ground := Ground.textOnly Departure.lateStores }, { on := 6, ground := Ground.textOnly Departure.lateStoresUnsure }, { on := 7, ground := Ground.textOnly Departure.lateStoresUnsure }, { on := 8, ground := Ground.textOnly Departure.lateStores }], guard := none }) (v := ?_) rfl (by kernel_rfl) (by kernel_rfl) (by kernel_rfl) (fun _ _ _ h => h) (Or.inl ⟨by rfl, ?_⟩) hHeld ?_
            rotate_left
            · intro w hSw; (try dsimp only at hSw); (try go_split_ands); go_simp; (first | done | with_reducible rfl)
            (try simp only [Act.put, List.setIfInBounds_toArray, List.set_cons_zero, List.set_cons_succ])
            refine wpAnyH_take (i := 10) (oi := { dst := some 5, op := Op.assign (Operand.tmp 97), type := 4, pos := "head.go:78", after := #[{ on := 8, ground := Ground.data }, { on := 9, ground := Ground.chain }, { on := 0, ground := Ground.phase }, { on := 1, ground := Ground.phase }, { on := 2, ground := Ground.phase }, { on := 3, ground := Ground.phase }, { on := 4, ground := Ground.phase }, { on := 5, ground := Ground.phase }, { on := 6, ground := Ground.phase }, { on := 7, ground := Ground.phase }, { on := 8, ground := Ground.phase }, { on := 9, ground := Ground.phase }], guard := none }) (v := ?_) rfl (by kernel_rfl) (by kernel_rfl) (by kernel_rfl) (fun _ _ _ h => h) (Or.inl ⟨by rfl, ?_⟩) hHeld ?_
            rotate_left
            · intro w hSw; (try dsimp only at hSw); (try go_split_ands); go_simp; (first | done | with_reducible rfl)
            (try simp only [Act.put, List.setIfInBounds_toArray, List.set_cons_zero, List.set_cons_succ])
            refine wpAnyH_done (by kernel_rfl) ?_ _
            refine NoPanic.normal ?_
            have HG9 := Lib.hid ((HQ.out.more (HWa.out.2.trans (HTb.out.mono HWa.out.2.size))).grown)
            have HW9 := Lib.hid (HWa.out.1.below HTb.out)
            have HB9 := Lib.hid ((HQ.out.more (HWa.out.2.trans (HTb.out.mono HWa.out.2.size))).st)
            go_wp2
            go_ret2
            exact ⟨HG9.out, .inr ⟨l9, s, HOp.out, A8, c8, by rw [HL9.out]; rfl, by rw [HL9.out]; exact HW9.out.base (by have h1 := HQ.out.met.lt; simp; omega), HB9.out⟩⟩
        · intro x cc kl ya yb w1 cnt1 hkey hleft hR6 hat hrg1 hlt1 hg1 hs1 hen
          obtain ⟨rfl, hxs⟩ := key_str_val x kl hkey
          obtain ⟨m2, v2⟩ := cc
          have hy : ya = .held (.agg #[.bool m2, v2]) := congrArg Prod.fst (Option.some.inj (hR6.symm.trans (R6_mk m2 v2)))
          subst hy
          obtain ⟨r, hrm, hfr, rfl, rfl, hnm⟩ := rd_entry HRD.out hat
          obtain ⟨K2, f2, p2, hv2, _, _⟩ := HF.out r hrm
          have HQ1 := Lib.hid (HQ.out.other HC.out HR.out hg1 (show w.heap.size < wo.heap.size from by have h1 := HJ.out.met.lt; omega))
          have HRg1 := Lib.hid hrg1
          have HLt := Lib.hid (And.intro hlt1 HRg.out.left_eq)
          have HRM := Lib.hid (And.intro hrm (And.intro hfr hnm))
          replace hen : (Instr.entry (.pointer (some ⟨wo.heap.size, 0, none⟩))).run Tryz.prog w1 = .ok (.tuple #[.string x, .agg #[.bool r.1.must, r.2]]) w1 := hen
          clear hkey hat hR6 hleft hg1 hrg1 hs1 hlt1 hrm hfr hnm
          obtain ⟨⟨rn, rm, rt⟩, rv⟩ := r
          simp only at hv2 hen HRM
          subst hv2
          have hb1 : Below w1.heap.size w1 (w1.alloc (.cells #[.bool rm, .func (.func K2) f2 p2] 170)) := (Below.refl _ _).alloc (Nat.le_refl _) _
          have HQ2 := Lib.hid (HQ1.out.more hb1)
          have HRg2 := Lib.hid (HRg1.out.alloc (.cells #[.bool rm, .func (.func K2) f2 p2] 170))
          have hmet := run_met HQ2.out.met x hxs
          obtain ⟨mt, hmt⟩ : ∃ b, ((l.take k).map nmOf).contains x.data.toList = b := ⟨_, rfl⟩
          rw [hmt] at hmet
          have HMT := Lib.hid hmt
          clear hb1 hmt
          have hnx : mkR ⟨rm, .func (.func K2) f2 p2⟩ = .agg #[.bool rm, .func (.func K2) f2 p2] := rfl
          rw [hnx]
          clear hnx
          rcases rm with _ | _
          · go_wp2
            go_roundw
            case rel => exact Lib.hid ⟨_, cnt1, HRg2.out, HQ2.out, fun nm r hf hl => by
              by_cases e : nm = x.data.toList
              · subst e
                obtain rfl := Option.some.inj (HRM.out.2.1.symm.trans hf)
                rfl
              · exact HGd.out nm r hf (by simpa [Maps.sameKey_ne (lt_ne e)] using hl)⟩
            case measure => rw [HRg2.out.left_eq, HLt.out.2]; exact HLt.out.1
          · rcases mt with _ | _
            · have HN := Lib.hid (HThr.out.trans (if_neg (by rw [musts_false HRM.out.1 (by simp only [Bool.not_true, Bool.false_or]; rw [HRM.out.2.2]; exact HMT.out)]; exact Bool.false_ne_true)))
              go_wp2
              go_ret2
              exact ⟨HQ2.out.grown, .inl ⟨HN.out, _, _, _, rfl⟩⟩
            · go_wp2
              go_roundw
              case rel => exact Lib.hid ⟨_, cnt1, HRg2.out, HQ2.out, fun nm r hf hl => by
                by_cases e : nm = x.data.toList
                · subst e
                  rw [HMT.out, Bool.or_true]
                · exact HGd.out nm r hf (by simpa [Maps.sameKey_ne (lt_ne e)] using hl)⟩
              case measure => rw [HRg2.out.left_eq, HLt.out.2]; exact HLt.out.1
end Go.Proofs.YtkpppjhbmnfmkaaGreatDoor.H6
