/-
  HeadMore: a list that may be, with a plain header more, may be; with one that is none it may not.
-/
import Derived.Test.YtkikcinpgbgbdaaDoorFs
import Derived.Deep.DeepCutAuto
namespace Go.Proofs.YtkikcinpgbgbdaaDoor
open Go.RowKit Go.Own Go.Own.Hd Go.Own.Fn Go.WideShapes
/-- While the longer list is made: what is owned, where the header lies. -/
structure MoF (B0 : World) (o : Option (Value × List HdrV)) (hd : Option Addr) (x : HdrV) (W : World) : Prop where
  bel : Below B0.heap.size B0 W
  own : ∀ v l, o = some (v, l) → Hw W B0.heap.size v l
  hdr : ∀ ad, hd = some ad → Hr W (some ad) 1 [x] ∧ ad.block < W.heap.size
  apart : ∀ v l ad, o = some (v, l) → hd = some ad → v.ownBlock ≠ some ad.block
section
variable {B0 W w' : World} {o : Option (Value × List HdrV)} {hd : Option Addr} {x : HdrV}
theorem MoF.start (w : World) (x : HdrV) : MoF w none none x w.drew := ⟨below_drewN (Below.refl _ _) 1, (fun _ _ h => nomatch h), (fun _ h => nomatch h), (fun _ _ _ h => nomatch h)⟩
theorem MoF.made (h : MoF B0 none hd x W) (h0 : Hw w' W.heap.size (.slice (some ⟨W.heap.size, 0, none⟩) 0 64) []) (h1 : Below W.heap.size W w') : MoF B0 (some (.slice (some ⟨W.heap.size, 0, none⟩) 0 64, [])) hd x w' :=
  ⟨h.bel.trans (h1.mono h.bel.size), (fun v l e => by cases e; exact h0.base h.bel.size), fun ad e => ⟨(h.hdr ad e).1.below h1, Nat.lt_of_lt_of_le (h.hdr ad e).2 h1.size⟩, fun v l ad e e2 e3 => by
    cases e
    have := (h.hdr ad e2).2
    simp [Value.ownBlock] at e3
    omega⟩
theorem MoF.bs (h : MoF B0 o none x W) : MoF B0 o (some ⟨W.heap.size, 0, none⟩) x (W.alloc (.cells #[.string x.name, .string x.value, .bool x.never] 26)) :=
  ⟨h.bel.alloc h.bel.size _, fun v l e => (h.own v l e).below ((Below.refl _ _).alloc (Nat.le_refl _) _), fun ad e => by
    cases e
    exact ⟨hr_lit (l := [x]) (Blk.new W 26 _), by simp⟩, fun v l ad e e2 e3 => by
    cases e2
    have := ((h.own v l e).lt _ e3).2
    exact Nat.lt_irrefl _ this⟩
theorem MoF.ap {v v' : Value} {l m : List HdrV} (h : MoF B0 (some (v, l)) hd x W) (h0 : Hw w' B0.heap.size v' (l ++ m)) (h1 : W.grownBy w' v.ownBlock) (h2 : v'.ownBlock = v.ownBlock ∨ v'.ownBlock = some W.heap.size) : MoF B0 (some (v', l ++ m)) hd x w' :=
  ⟨h.bel.grown h1 h.bel.size (fun k e => ((h.own v l rfl).lt k e).1), (fun a b e => by cases e; exact h0), fun ad e => ⟨(h.hdr ad e).1.grown h1 (fun _ ad' e' => by cases e'; exact fun e3 => h.apart v l ad rfl e e3.symm), Nat.lt_of_lt_of_le (h.hdr ad e).2 h1.size⟩, fun a b ad e e2 e3 => by
    cases e
    rcases h2 with h2 | h2
    · exact h.apart v l ad rfl e2 (h2 ▸ e3)
    · rw [h2] at e3
      have := (h.hdr ad e2).2
      injection e3 with e3
      omega⟩
end
section
variable {ops : Array Oper} {o : Oper} {a : Act} {K : Act → World → Prop} {Q : Exit → Act → World → Prop} {E : Prop}
theorem step_mk64 (w : World) (hgd : o.guard = none) (hop : o.op = Op.makeSlice 22 (.const (.int .i64 0)) (.const (.int .i64 64)))
    (h : ∀ w', Hw w' w.heap.size (.slice (some ⟨w.heap.size, 0, none⟩) 0 64) [] → Below w.heap.size w w' → K (a.put o.dst (.slice (some ⟨w.heap.size, 0, none⟩) 0 64)) w') :
    if Region.wanted o (yielded ops a.tmps) = true then Oper.wp Tryd.prog o a w K Q else E := by
  have hw : Region.wanted o (yielded ops a.tmps) = true := by simp [Region.wanted, hgd]
  rw [if_pos hw]
  obtain ⟨i, hi, hz, h1, h2⟩ := infoH
  obtain ⟨w', hrun, r1, r2⟩ := run_make_own (P := Tryd.prog) w w.heap.size 22 26 i _ 3 Tryd.underlying22 hi hz h1 .i64 .i64 64 (by rw [h2]; omega) (by simp only [maxLen]; omega) (Nat.le_refl _)
  have hrun : (Instr.makeSlice 22 (.int .i64 0) (.int .i64 64)).run Tryd.prog w = _ := hrun
  unfold Oper.wp
  have e1 : a.eval (.const (.int .i64 0)) = .int .i64 0 := rfl
  have e2 : a.eval (.const (.int .i64 64)) = .int .i64 64 := rfl
  simp [execOp, hop, e1, e2, hrun, Result.andThen]
  exact h w' r1 ((Below.refl _ _).grown r2 (Nat.le_refl _) (fun k e => by cases e))
theorem step_app2 (w : World) (hgd : o.guard = none) (s x : Operand) (ho : o.op = .call { callee := .builtin .append, args := #[s, x], argTypes := #[22, 22] })
    (base : Nat) (v : Value) (l0 : List HdrV) (hs : a.eval s = v) (hown : Hw w base v l0) (A : Option Addr) (n c : Nat) (l : List HdrV) (hx : a.eval x = .slice A n c) (hr : Hr w A n l) (hb : l0.length + n ≤ 1000) (hbase : base ≤ w.heap.size)
    (h : ∀ v' w', Hw w' base v' (l0 ++ l) → w.grownBy w' v.ownBlock → (v'.ownBlock = v.ownBlock ∨ v'.ownBlock = some w.heap.size) → K (a.put o.dst v') w') :
    if Region.wanted o (yielded ops a.tmps) = true then Oper.wp Tryd.prog o a w K Q else E := by
  have hw : Region.wanted o (yielded ops a.tmps) = true := by simp [Region.wanted, hgd]
  rw [if_pos hw]
  obtain ⟨v', w', hrun, r1, r2, r3⟩ := run_app_hg w o.type base v l0 hown A n c l hr hb hbase
  unfold Oper.wp execOp
  simp only [ho, resolve, invoke, builtin, Sem.run_bind, Sem.run_pure, Result.andThen_ok, List.map_toArray, List.map_cons, List.map_nil, hs, hx, hrun]
  exact h v' w' r1 r2 r3
end
/-- What lasts while the lists are opened. -/
structure MoR (w : World) (A A6 : Option Addr) (n : Nat) (l : List HdrV) (x : HdrV) (W : World) : Prop where
  bel : Below w.heap.size w W
  hl : Hr W A n l
  hm : Hr W A6 (n + 1) (l ++ [x])
  hk : Blk W w.heap.size 26 #[.string x.name, .string x.value, .bool x.never]
theorem MoR.below {w W W' : World} {A A6 : Option Addr} {n : Nat} {l : List HdrV} {x : HdrV} (h : MoR w A A6 n l x W) (hb : Below W.heap.size W W') : MoR w A A6 n l x W' :=
  ⟨h.bel.trans (hb.mono h.bel.size), h.hl.below hb, h.hm.below hb, h.hk.below hb h.hk.lt⟩
theorem MoR.alloc {w W : World} {A A6 : Option Addr} {n : Nat} {l : List HdrV} {x : HdrV} (h : MoR w A A6 n l x W) (o : Obj) : MoR w A A6 n l x (W.alloc o) := h.below ((Below.refl _ _).alloc (Nat.le_refl _) _)
def MorePost (w : World) (e : Ending) (w' : World) : Prop := e = .returned (.bool true) ∧ Below w.heap.size w w'
set_option maxHeartbeats 8000000 in
set_option maxRecDepth 100000 in
theorem headMore_any (A : Option Addr) (n c : Nat) (l : List HdrV) (x : HdrV) (w : World) {e1 e2 e3 : Addr} (he : EnvH w e1 e2 e3) (hn : n ≤ 100000000) (hnc : n ≤ c) (hr : Hr w A n l) (hz : Szs l) (hx : x.name.size ≤ 100000000 ∧ x.value.size ≤ 100000000) :
    Calls Tryd.prog 4 #[.slice A n c, .agg #[.string x.name, .string x.value, .bool x.never]] w (MorePost w) := by
  have HE := Lib.hid he
  have HR := Lib.hid hr
  have HZ := Lib.hid hz
  have HN := Lib.hid (And.intro hn hnc)
  have HX := Lib.hid hx
  obtain ⟨xn, xv, xb⟩ := x
  simp only at HX hx ⊢
  obtain ⟨x1, x2⟩ := hx
  clear he hr hz hn hnc
  go_enter Tryd.func4, Tryd.ntmps4
  go_wp2_with fail
  have hb0 : Below w.heap.size w (w.alloc (.cells #[.string xn, .string xv, .bool xb] 26)) := (Below.refl _ _).alloc (Nat.le_refl _) _
  have HB0 := Lib.hid hb0
  have HK0 := Lib.hid (Blk.new w 26 #[.string xn, .string xv, .bool xb])
  clear hb0
  refine (first_any _ (HE.out.below HB0.out HE.out.room)).mono ?_
  rintro e w1 ⟨rfl, g1⟩
  have HB1 := Lib.hid (HB0.out.trans (g1.mono HB0.out.size))
  have HK1 := Lib.hid (HK0.out.below g1 HK0.out.lt)
  clear g1 HB0 HK0
  go_wp2_with fail
  refine (light_any A n c l w1 HN.out.1 (HR.out.below HB1.out) HZ.out).mono ?_
  rintro e w2 ⟨lb, rfl, hlb, q2, rfl⟩
  have HLb := Lib.hid hlb
  have hlbx := HLb.out
  have HB2 := Lib.hid (below_drewN HB1.out q2)
  have HK2 := Lib.hid (HK1.out.drewN q2)
  generalize w1.drewN q2 = w2 at HB2 HK2 ⊢
  clear hlb HB1 HK1
  have k0 : w2.cell? ⟨w.heap.size, 0, none⟩ = some (.string xn) := HK2.out.cell 0
  have k1 : w2.cell? ⟨w.heap.size, 1, none⟩ = some (.string xv) := HK2.out.cell 1
  have k2 : w2.cell? ⟨w.heap.size, 2, none⟩ = some (.bool xb) := HK2.out.cell 2
  rcases lb with _ | _
  · go_wp2
    go_ret
    exact ⟨rfl, HB2.out⟩
  · by_cases hn0 : n = 0
    · subst hn0
      go_wp2
      go_ret
      exact ⟨rfl, HB2.out⟩
    · have hnb : ((n : Int) == 0) = false := by rw [beq_eq_false_iff_ne]; omega
      by_cases h3 : xn.size + xv.size ≤ 3000
      · have h3d : decide ((3000 : Int) < (xn.size : Int) + (xv.size : Int)) = false := decide_eq_false (by omega)
        have HRr := Lib.hid (fun W (hW : Below w2.heap.size w2 W) => (HR.out.below HB2.out).below hW)
        have HN60 := Lib.hid (hlbx rfl)
        have HLen := Lib.hid HR.out.1
        have HF0 := Lib.hid (MoF.start w2 ⟨xn, xv, xb⟩)
        have HS := Lib.hid (fun W (hW : Below w2.heap.size w2 W) => (show W.cell? ⟨w.heap.size, 0, none⟩ = some (.string xn) ∧ W.cell? ⟨w.heap.size, 1, none⟩ = some (.string xv) ∧ W.cell? ⟨w.heap.size, 2, none⟩ = some (.bool xb) from ⟨(HK2.out.below hW HK2.out.lt).cell 0, (HK2.out.below hW HK2.out.lt).cell 1, (HK2.out.below hW HK2.out.lt).cell 2⟩))
        go_upto_region 4 with fail
        go_cut [6] (fun mv wx => Nonempty (Hid (Hw wx w2.heap.size mv (l ++ [⟨xn, xv, xb⟩]) ∧ Below w2.heap.size w2 wx)) )
        case first =>
            refine wp_region_noPanic ?_
            refine wp_region_held_drew (S := (fun w' => w'.cell? ⟨w.heap.size, 0, none⟩ = some (.string xn) ∧ w'.cell? ⟨w.heap.size, 1, none⟩ = some (.string xv) ∧ w'.cell? ⟨w.heap.size, 2, none⟩ = some (.bool xb))) (by kernel_rfl) ⟨k0, k1, k2⟩ (fun hHeld => ?_)
            refine wpAnyH_take (i := 1) (oi := { dst := some 45, op := Op.move (Operand.tmp 0), type := 22, pos := "more.go:14", after := #[], guard := none }) (v := ?_) rfl (by kernel_rfl) (by kernel_rfl) (by kernel_rfl) (fun _ _ _ h => h) (Or.inl ⟨by rfl, ?_⟩) hHeld ?_
            rotate_left
            · intro w hSw; (try dsimp only at hSw); (try go_split_ands); go_simp; (first | done | with_reducible rfl)
            (try simp only [Act.put, List.setIfInBounds_toArray, List.set_cons_zero, List.set_cons_succ])
            refine wpAnyH_take (i := 3) (oi := { dst := some 47, op := Op.load 26 (Operand.tmp 3), type := 26, pos := "more.go:14", after := #[], guard := none }) (v := ?_) rfl (by kernel_rfl) (by kernel_rfl) (by kernel_rfl) (fun _ _ _ h => h) (Or.inl ⟨by rfl, ?_⟩) hHeld ?_
            rotate_left
            · intro w hSw; (try dsimp only at hSw); (try go_split_ands); go_simp; (first | done | with_reducible rfl)
            (try simp only [Act.put, List.setIfInBounds_toArray, List.set_cons_zero, List.set_cons_succ])
            refine wpAnyH_ready (rs := [0, 4]) (by kernel_rfl) (by simp) ?_
            refine AllReadyH.cons (o := { dst := some 44, op := Op.makeSlice 22 (Operand.const (Value.int IntKind.i64 0)) (Operand.const (Value.int IntKind.i64 64)), type := 22, pos := "more.go:14", after := #[], guard := none }) rfl (fun K hK => ?_) (AllReadyH.cons (o := { dst := some 48, op := Op.buildSlice 22 1 #[(0, Operand.tmp 47)], type := 22, pos := "more.go:14", after := #[{ on := 3, ground := Ground.data }], guard := none }) rfl (fun K hK => ?_) AllReadyH.nil)
            · refine step_mk64 _ (by rfl) (by rfl) ?_
              intro wm1 hm0 hm1
              have HF1 := Lib.hid (HF0.out.made hm0 hm1)
              clear hm0 hm1
              have hs := HS.out wm1 HF1.out.bel
              refine hK.out _ _ hs (fun hHeld2 => ?_)
              clear hHeld
              have hHeld := hHeld2
              clear hHeld2 hK K
              (try simp only [Act.put, List.setIfInBounds_toArray, List.set_cons_zero, List.set_cons_succ])
              refine wpAnyH_ready (rs := [2, 4]) (by kernel_rfl) (by simp) ?_
              refine AllReadyH.cons (o := { dst := some 46, op := Op.call { callee := Callee.builtin Builtin.append, args := #[Operand.tmp 44, Operand.tmp 45], argTypes := #[22, 22] }, type := 22, pos := "more.go:14", after := #[{ on := 0, ground := Ground.data }, { on := 1, ground := Ground.data }], guard := none }) rfl (fun K hK => ?_) (AllReadyH.cons (o := { dst := some 48, op := Op.buildSlice 22 1 #[(0, Operand.tmp 47)], type := 22, pos := "more.go:14", after := #[{ on := 3, ground := Ground.data }], guard := none }) rfl (fun K hK => ?_) AllReadyH.nil)
              · refine step_app2 _ (by rfl) (.tmp 44) (.tmp 45) (by rfl) w2.heap.size _ [] (by rfl) (HF1.out.own _ _ rfl) A n c l (by rfl) (HRr.out _ HF1.out.bel) (by have := HN60.out; simp; omega) HF1.out.bel.size ?_
                intro va2 wa2 ha0 ha1 ha2
                have HF2 := Lib.hid (HF1.out.ap ha0 ha1 ha2)
                clear ha0 ha1 ha2
                have hs := HS.out wa2 HF2.out.bel
                refine hK.out _ _ hs (fun hHeld2 => ?_)
                clear hHeld
                have hHeld := hHeld2
                clear hHeld2 hK K
                (try simp only [Act.put, List.setIfInBounds_toArray, List.set_cons_zero, List.set_cons_succ])
                refine wpAnyH_ready (rs := [4]) (by kernel_rfl) (by simp) ?_
                refine AllReadyH.cons (o := { dst := some 48, op := Op.buildSlice 22 1 #[(0, Operand.tmp 47)], type := 22, pos := "more.go:14", after := #[{ on := 3, ground := Ground.data }], guard := none }) rfl (fun K hK => ?_) AllReadyH.nil
                go_simp
                have HF3 := Lib.hid (HF2.out.bs)
                have hs := HS.out _ HF3.out.bel
                refine hK.out _ _ hs (fun hHeld2 => ?_)
                clear hHeld
                have hHeld := hHeld2
                clear hHeld2 hK K
                (try simp only [Act.put, List.setIfInBounds_toArray, List.set_cons_zero, List.set_cons_succ])
                refine wpAnyH_ready (rs := [5]) (by kernel_rfl) (by simp) ?_
                refine AllReadyH.cons (o := { dst := some 49, op := Op.call { callee := Callee.builtin Builtin.append, args := #[Operand.tmp 46, Operand.tmp 48], argTypes := #[22, 22] }, type := 22, pos := "more.go:14", after := #[{ on := 2, ground := Ground.data }, { on := 4, ground := Ground.data }, { on := 2, ground := Ground.chain }], guard := none }) rfl (fun K hK => ?_) AllReadyH.nil
                refine step_app2 _ (by rfl) (.tmp 46) (.tmp 48) (by rfl) w2.heap.size _ _ (by rfl) (HF3.out.own _ _ rfl) _ 1 1 [⟨xn, xv, xb⟩] (by rfl) (HF3.out.hdr _ rfl).1 (by have := HN60.out; have := HLen.out; simp; omega) HF3.out.bel.size ?_
                intro vf wf ha0 ha1 ha2
                have HF4 := Lib.hid (HF3.out.ap ha0 ha1 ha2)
                clear ha0 ha1 ha2
                have hs := HS.out wf HF4.out.bel
                refine hK.out _ _ hs (fun hHeld2 => ?_)
                clear hHeld
                have hHeld := hHeld2
                clear hHeld2 hK K
                (try simp only [Act.put, List.setIfInBounds_toArray, List.set_cons_zero, List.set_cons_succ])
                refine wpAnyH_take (i := 6) (oi := { dst := some 6, op := Op.assign (Operand.tmp 49), type := 22, pos := "more.go:14", after := #[{ on := 5, ground := Ground.data }, { on := 5, ground := Ground.chain }, { on := 0, ground := Ground.phase }, { on := 1, ground := Ground.phase }, { on := 2, ground := Ground.phase }, { on := 3, ground := Ground.phase }, { on := 4, ground := Ground.phase }, { on := 5, ground := Ground.phase }], guard := none }) (v := ?_) rfl (by kernel_rfl) (by kernel_rfl) (by kernel_rfl) (fun _ _ _ h => h) (Or.inl ⟨by rfl, ?_⟩) hHeld ?_
                rotate_left
                · intro w hSw; (try dsimp only at hSw); (try go_split_ands); go_simp; (first | done | with_reducible rfl)
                (try simp only [Act.put, List.setIfInBounds_toArray, List.set_cons_zero, List.set_cons_succ])
                refine wpAnyH_done (by kernel_rfl) ?_ _
                refine NoPanic.normal ?_
                go_wp2_with fail
                go_meet
                exact ⟨Lib.hid ⟨HF4.out.own _ _ rfl, HF4.out.bel⟩⟩
              · go_simp
                have HF5 := Lib.hid (HF1.out.bs)
                have hs := HS.out _ HF5.out.bel
                refine hK.out _ _ hs (fun hHeld2 => ?_)
                clear hHeld
                have hHeld := hHeld2
                clear hHeld2 hK K
                (try simp only [Act.put, List.setIfInBounds_toArray, List.set_cons_zero, List.set_cons_succ])
                refine wpAnyH_ready (rs := [2]) (by kernel_rfl) (by simp) ?_
                refine AllReadyH.cons (o := { dst := some 46, op := Op.call { callee := Callee.builtin Builtin.append, args := #[Operand.tmp 44, Operand.tmp 45], argTypes := #[22, 22] }, type := 22, pos := "more.go:14", after := #[{ on := 0, ground := Ground.data }, { on := 1, ground := Ground.data }], guard := none }) rfl (fun K hK => ?_) AllReadyH.nil
                refine step_app2 _ (by rfl) (.tmp 44) (.tmp 45) (by rfl) w2.heap.size _ [] (by rfl) (HF5.out.own _ _ rfl) A n c l (by rfl) (HRr.out _ HF5.out.bel) (by have := HN60.out; simp; omega) HF5.out.bel.size ?_
                intro va6 wa6 ha0 ha1 ha2
                have HF6 := Lib.hid (HF5.out.ap ha0 ha1 ha2)
                clear ha0 ha1 ha2
                have hs := HS.out wa6 HF6.out.bel
                refine hK.out _ _ hs (fun hHeld2 => ?_)
                clear hHeld
                have hHeld := hHeld2
                clear hHeld2 hK K
                (try simp only [Act.put, List.setIfInBounds_toArray, List.set_cons_zero, List.set_cons_succ])
                refine wpAnyH_ready (rs := [5]) (by kernel_rfl) (by simp) ?_
                refine AllReadyH.cons (o := { dst := some 49, op := Op.call { callee := Callee.builtin Builtin.append, args := #[Operand.tmp 46, Operand.tmp 48], argTypes := #[22, 22] }, type := 22, pos := "more.go:14", after := #[{ on := 2, ground := Ground.data }, { on := 4, ground := Ground.data }, { on := 2, ground := Ground.chain }], guard := none }) rfl (fun K hK => ?_) AllReadyH.nil
                refine step_app2 _ (by rfl) (.tmp 46) (.tmp 48) (by rfl) w2.heap.size _ _ (by rfl) (HF6.out.own _ _ rfl) _ 1 1 [⟨xn, xv, xb⟩] (by rfl) (HF6.out.hdr _ rfl).1 (by have := HN60.out; have := HLen.out; simp; omega) HF6.out.bel.size ?_
                intro vf wf ha0 ha1 ha2
                have HF7 := Lib.hid (HF6.out.ap ha0 ha1 ha2)
                clear ha0 ha1 ha2
                have hs := HS.out wf HF7.out.bel
                refine hK.out _ _ hs (fun hHeld2 => ?_)
                clear hHeld
                have hHeld := hHeld2
                clear hHeld2 hK K
                (try simp only [Act.put, List.setIfInBounds_toArray, List.set_cons_zero, List.set_cons_succ])
                refine wpAnyH_take (i := 6) (oi := { dst := some 6, op := Op.assign (Operand.tmp 49), type := 22, pos := "more.go:14", after := #[{ on := 5, ground := Ground.data }, { on := 5, ground := Ground.chain }, { on := 0, ground := Ground.phase }, { on := 1, ground := Ground.phase }, { on := 2, ground := Ground.phase }, { on := 3, ground := Ground.phase }, { on := 4, ground := Ground.phase }, { on := 5, ground := Ground.phase }], guard := none }) (v := ?_) rfl (by kernel_rfl) (by kernel_rfl) (by kernel_rfl) (fun _ _ _ h => h) (Or.inl ⟨by rfl, ?_⟩) hHeld ?_
                rotate_left
                · intro w hSw; (try dsimp only at hSw); (try go_split_ands); go_simp; (first | done | with_reducible rfl)
                (try simp only [Act.put, List.setIfInBounds_toArray, List.set_cons_zero, List.set_cons_succ])
                refine wpAnyH_done (by kernel_rfl) ?_ _
                refine NoPanic.normal ?_
                go_wp2_with fail
                go_meet
                exact ⟨Lib.hid ⟨HF7.out.own _ _ rfl, HF7.out.bel⟩⟩
            · go_simp
              have HF8 := Lib.hid (HF0.out.bs)
              have hs := HS.out _ HF8.out.bel
              refine hK.out _ _ hs (fun hHeld2 => ?_)
              clear hHeld
              have hHeld := hHeld2
              clear hHeld2 hK K
              (try simp only [Act.put, List.setIfInBounds_toArray, List.set_cons_zero, List.set_cons_succ])
              refine wpAnyH_ready (rs := [0]) (by kernel_rfl) (by simp) ?_
              refine AllReadyH.cons (o := { dst := some 44, op := Op.makeSlice 22 (Operand.const (Value.int IntKind.i64 0)) (Operand.const (Value.int IntKind.i64 64)), type := 22, pos := "more.go:14", after := #[], guard := none }) rfl (fun K hK => ?_) AllReadyH.nil
              refine step_mk64 _ (by rfl) (by rfl) ?_
              intro wm9 hm0 hm1
              have HF9 := Lib.hid (HF8.out.made hm0 hm1)
              clear hm0 hm1
              have hs := HS.out wm9 HF9.out.bel
              refine hK.out _ _ hs (fun hHeld2 => ?_)
              clear hHeld
              have hHeld := hHeld2
              clear hHeld2 hK K
              (try simp only [Act.put, List.setIfInBounds_toArray, List.set_cons_zero, List.set_cons_succ])
              refine wpAnyH_ready (rs := [2]) (by kernel_rfl) (by simp) ?_
              refine AllReadyH.cons (o := { dst := some 46, op := Op.call { callee := Callee.builtin Builtin.append, args := #[Operand.tmp 44, Operand.tmp 45], argTypes := #[22, 22] }, type := 22, pos := "more.go:14", after := #[{ on := 0, ground := Ground.data }, { on := 1, ground := Ground.data }], guard := none }) rfl (fun K hK => ?_) AllReadyH.nil
              refine step_app2 _ (by rfl) (.tmp 44) (.tmp 45) (by rfl) w2.heap.size _ [] (by rfl) (HF9.out.own _ _ rfl) A n c l (by rfl) (HRr.out _ HF9.out.bel) (by have := HN60.out; simp; omega) HF9.out.bel.size ?_
              intro va10 wa10 ha0 ha1 ha2
              have HF10 := Lib.hid (HF9.out.ap ha0 ha1 ha2)
              clear ha0 ha1 ha2
              have hs := HS.out wa10 HF10.out.bel
              refine hK.out _ _ hs (fun hHeld2 => ?_)
              clear hHeld
              have hHeld := hHeld2
              clear hHeld2 hK K
              (try simp only [Act.put, List.setIfInBounds_toArray, List.set_cons_zero, List.set_cons_succ])
              refine wpAnyH_ready (rs := [5]) (by kernel_rfl) (by simp) ?_
              refine AllReadyH.cons (o := { dst := some 49, op := Op.call { callee := Callee.builtin Builtin.append, args := #[Operand.tmp 46, Operand.tmp 48], argTypes := #[22, 22] }, type := 22, pos := "more.go:14", after := #[{ on := 2, ground := Ground.data }, { on := 4, ground := Ground.data }, { on := 2, ground := Ground.chain }], guard := none }) rfl (fun K hK => ?_) AllReadyH.nil
              refine step_app2 _ (by rfl) (.tmp 46) (.tmp 48) (by rfl) w2.heap.size _ _ (by rfl) (HF10.out.own _ _ rfl) _ 1 1 [⟨xn, xv, xb⟩] (by rfl) (HF10.out.hdr _ rfl).1 (by have := HN60.out; have := HLen.out; simp; omega) HF10.out.bel.size ?_
              intro vf wf ha0 ha1 ha2
              have HF11 := Lib.hid (HF10.out.ap ha0 ha1 ha2)
              clear ha0 ha1 ha2
              have hs := HS.out wf HF11.out.bel
              refine hK.out _ _ hs (fun hHeld2 => ?_)
              clear hHeld
              have hHeld := hHeld2
              clear hHeld2 hK K
              (try simp only [Act.put, List.setIfInBounds_toArray, List.set_cons_zero, List.set_cons_succ])
              refine wpAnyH_take (i := 6) (oi := { dst := some 6, op := Op.assign (Operand.tmp 49), type := 22, pos := "more.go:14", after := #[{ on := 5, ground := Ground.data }, { on := 5, ground := Ground.chain }, { on := 0, ground := Ground.phase }, { on := 1, ground := Ground.phase }, { on := 2, ground := Ground.phase }, { on := 3, ground := Ground.phase }, { on := 4, ground := Ground.phase }, { on := 5, ground := Ground.phase }], guard := none }) (v := ?_) rfl (by kernel_rfl) (by kernel_rfl) (by kernel_rfl) (fun _ _ _ h => h) (Or.inl ⟨by rfl, ?_⟩) hHeld ?_
              rotate_left
              · intro w hSw; (try dsimp only at hSw); (try go_split_ands); go_simp; (first | done | with_reducible rfl)
              (try simp only [Act.put, List.setIfInBounds_toArray, List.set_cons_zero, List.set_cons_succ])
              refine wpAnyH_done (by kernel_rfl) ?_ _
              refine NoPanic.normal ?_
              go_wp2_with fail
              go_meet
              exact ⟨Lib.hid ⟨HF11.out.own _ _ rfl, HF11.out.bel⟩⟩
        case rest =>
            obtain ⟨hcf⟩ := hcut
            obtain ⟨A6, c6, rfl, hc6, _⟩ := hcf.out.1.form
            have hl6 : (l ++ [(⟨xn, xv, xb⟩ : HdrV)]).length = n + 1 := by rw [List.length_append, HLen.out]; rfl
            rw [hl6] at hcf hc6 ⊢
            have HR0 := Lib.hid (show MoR w A A6 n l ⟨xn, xv, xb⟩ wc from ⟨HB2.out.trans (hcf.out.2.mono HB2.out.size), HRr.out wc hcf.out.2, hcf.out.1.hr, HK2.out.below hcf.out.2 HK2.out.lt⟩)
            have HZx := Lib.hid (show Szs [(⟨xn, xv, xb⟩ : HdrV)] from fun y hy => by
              rw [List.mem_singleton] at hy; subst hy; exact ⟨by show xn.size ≤ _; omega, by show xv.size ≤ _; omega⟩)
            have HZm := Lib.hid (show Szs (l ++ [(⟨xn, xv, xb⟩ : HdrV)]) from fun y hy => by
              rcases List.mem_append.1 hy with hy | hy
              · exact HZ.out y hy
              · exact HZx.out y hy)
            have HC6 := Lib.hid hc6
            clear hcf hl6 hc6 HF0 HS HRr HB2 HK2 k0 k1 k2 hlbx HLb
            have c0 : wc.cell? ⟨w.heap.size, 0, none⟩ = some (.string xn) := HR0.out.hk.cell 0
            have c1 : wc.cell? ⟨w.heap.size, 1, none⟩ = some (.string xv) := HR0.out.hk.cell 1
            have c2 : wc.cell? ⟨w.heap.size, 2, none⟩ = some (.bool xb) := HR0.out.hk.cell 2
            have hq := fun b W => run_ev_eq e1 b W
            have hq2 := fun b W => run_ev_ne e1 b W
            have hq3 := fun b x W => run_eg e1 b .eql x W
            have hq4 := fun b x W => run_eg e1 b .neq x W
            go_wp2_with fail
            have HR1 := Lib.hid (HR0.out.alloc (.cells #[.string xn, .string xv, .bool xb] 26))
            refine (trails_ok (some ⟨wc.heap.size, 0, none⟩) 1 1 [⟨xn, xv, xb⟩] _ (HE.out.below HR1.out.bel HE.out.room) (by decide) (hr_lit (l := [⟨xn, xv, xb⟩]) (Blk.new wc 26 _)) HZx.out).mono ?_
            rintro e w3 ⟨rfl, g3⟩
            have HR3 := Lib.hid (HR1.out.below g3.out)
            clear g3 HR0 HR1 c0 c1 c2
            go_wp2_with fail
            refine (open_ok A n c l w3 (HE.out.below HR3.out.bel HE.out.room) (by have := HN60.out; omega) HN.out.2 HR3.out.hl HZ.out).mono ?_
            rintro e w4 ⟨a1, a2, a3, a4, A5, n5, c5, rfl, g4⟩
            have HR4 := Lib.hid ((HR3.out.below g4.out).alloc (.cells #[.string a1, .string a2, .string a3, .string a4, .slice A5 n5 c5] 29))
            clear g4 HR3
            go_wp2_with fail
            refine (open_ok A6 (n + 1) c6 (l ++ [⟨xn, xv, xb⟩]) _ (HE.out.below HR4.out.bel HE.out.room) (by have := HN60.out; omega) HC6.out HR4.out.hm HZm.out).mono ?_
            rintro e w5 ⟨b1, b2, b3, b4, A7, n7, c7, rfl, g5⟩
            have HR5 := Lib.hid ((HR4.out.below g5.out).alloc (.cells #[.string b1, .string b2, .string b3, .string b4, .slice A7 n7 c7] 29))
            clear g5 HR4
            go_wp2_with fail
            refine (ans_ok A n c l _ (HE.out.below HR5.out.bel HE.out.room) (by have := HN60.out; omega) HN.out.2 HR5.out.hl HZ.out).mono ?_
            rintro e w6 ⟨d1, A8, n8, c8, rfl, g6⟩
            have HR6 := Lib.hid ((HR5.out.below g6.out).alloc (.cells #[.int .i64 d1, .slice A8 n8 c8] 35))
            clear g6 HR5
            go_wp2_with fail
            refine (ans_ok A6 (n + 1) c6 (l ++ [⟨xn, xv, xb⟩]) _ (HE.out.below HR6.out.bel HE.out.room) (by have := HN60.out; omega) HC6.out HR6.out.hm HZm.out).mono ?_
            rintro e w7 ⟨d2, A9, n9, c9, rfl, g7⟩
            have HR7 := Lib.hid ((HR6.out.below g7.out).alloc (.cells #[.int .i64 d2, .slice A9 n9 c9] 35))
            clear g7 HR6
            go_wp2_with fail
            refine (trails_ok A n c l _ (HE.out.below HR7.out.bel HE.out.room) (by have := HN60.out; omega) HR7.out.hl HZ.out).mono ?_
            rintro e w8 ⟨rfl, g8⟩
            have HR8 := Lib.hid (HR7.out.below g8.out)
            clear g8 HR7
            go_wp2_with fail
            refine (trails_ok A6 (n + 1) c6 (l ++ [⟨xn, xv, xb⟩]) _ (HE.out.below HR8.out.bel HE.out.room) (by have := HN60.out; omega) HR8.out.hm HZm.out).mono ?_
            rintro e w9 ⟨rfl, g9⟩
            have HR9 := Lib.hid (HR8.out.below g9.out)
            clear g9 HR8
            have hD1 : okB rules4 req0 l = false ∨ (okB rules4 req0 l = true ∧ okB rules4 req0 (l ++ [⟨xn, xv, xb⟩]) = plainB ⟨xn, xv, xb⟩) ∨ (okB rules4 req0 l = true ∧ colonB ⟨xn, xv, xb⟩ = true ∧ n ≤ 3) := by
              cases h : okB rules4 req0 l
              · exact .inl rfl
              · rcases more_ok (h := ⟨xn, xv, xb⟩) h with h2 | ⟨h2, h3⟩
                · exact .inr (.inl ⟨rfl, h2⟩)
                · rw [HLen.out] at h3
                  exact .inr (.inr ⟨rfl, h2, by have : rules4.length = 4 := rfl; omega⟩)
            have hD2 : okB rules1 0 l = false ∨ (okB rules1 0 l = true ∧ okB rules1 0 (l ++ [⟨xn, xv, xb⟩]) = plainB ⟨xn, xv, xb⟩) := by
              cases h : okB rules1 0 l
              · exact .inl rfl
              · rcases more_ok (h := ⟨xn, xv, xb⟩) h with h2 | ⟨h2, h3⟩
                · exact .inr ⟨rfl, h2⟩
                · rw [HLen.out] at h3
                  exact absurd h3 (by have : rules1.length = 1 := rfl; omega)
            have hD3 : l.all plainB = false ∨ (l.all plainB = true ∧ (l ++ [(⟨xn, xv, xb⟩ : HdrV)]).all plainB = plainB ⟨xn, xv, xb⟩) := by
              cases h : l.all plainB
              · exact .inl rfl
              · exact .inr ⟨rfl, by rw [List.all_append, h]; simp⟩
            have hcol : ∀ (h0 : xn.size = 0), colonB ⟨xn, xv, xb⟩ = false := fun h0 => by
              have : tx xn = [] := List.eq_nil_of_length_eq_zero (by have := Lib.size_eq xn; rw [h0] at this; exact this.symm)
              simp [colonB, this]
            have hcol2 : ∀ (h0 : 0 < xn.size), colonB ⟨xn, xv, xb⟩ = (((xn.data.toList.getD 0 0).toNat : Int) == 58) := fun h0 => by
              have hne : tx xn ≠ [] := fun e => by
                have h9 : xn.size = xn.data.toList.length := Lib.size_eq xn
                rw [show xn.data.toList = [] from e, List.length_nil] at h9
                omega
              rw [Bool.eq_iff_iff, beq_iff_eq]
              unfold colonB
              rw [decide_eq_true_iff]
              constructor
              · rintro ⟨_, h⟩
                have h : (tx xn).getD 0 0 = 58 := h
                rw [show xn.data.toList = tx xn from rfl, h]; rfl
              · intro h
                refine ⟨hne, UInt8.toNat_inj.1 ?_⟩
                show ((tx xn).getD 0 0).toNat = 58
                have h : (((tx xn).getD 0 0).toNat : Int) = 58 := h
                omega
            have HCol := Lib.hid (And.intro hcol hcol2)
            clear hcol hcol2
            generalize okB rules4 req0 l = o1 at hD1 ⊢
            generalize okB rules4 req0 (l ++ [⟨xn, xv, xb⟩]) = o2 at hD1 ⊢
            generalize okB rules1 0 l = o3 at hD2 ⊢
            generalize okB rules1 0 (l ++ [⟨xn, xv, xb⟩]) = o4 at hD2 ⊢
            generalize l.all plainB = o5 at hD3 ⊢
            generalize (l ++ [(⟨xn, xv, xb⟩ : HdrV)]).all plainB = o6 at hD3 ⊢
            generalize plainB ⟨xn, xv, xb⟩ = pl at hD1 hD2 hD3 ⊢
            have c0 : w9.cell? ⟨w.heap.size, 0, none⟩ = some (.string xn) := HR9.out.hk.cell 0
            by_cases hsz : xn.size = 0
            · have hcb := HCol.out.1 hsz
              rw [hcb] at hD1
              have hd1 : o1 = false ∨ (o1 = true ∧ o2 = pl) := by
                rcases hD1 with h | h | ⟨_, h, _⟩
                · exact .inl h
                · exact .inr h
                · cases h
              clear hD1 hcb
              rcases hd1 with rfl | ⟨rfl, rfl⟩
              all_goals rcases hD2 with rfl | ⟨rfl, rfl⟩
              all_goals rcases hD3 with rfl | ⟨rfl, rfl⟩
              all_goals
                go_wp2
                all_goals
                  go_ret
                  exact ⟨rfl, HR9.out.bel⟩
            · have hcb := HCol.out.2 (by omega)
              have hi0 := idx_getD xn 0 0 rfl (by omega)
              obtain ⟨y, hy⟩ : ∃ y : Int, ((xn.data.toList.getD 0 0).toNat : Int) = y := ⟨_, rfl⟩
              rw [hy] at hcb hi0
              rw [hcb] at hD1
              have hpos : (0 : Int) < (xn.size : Int) := by omega
              obtain ⟨cb, hcb2⟩ : ∃ b, (y == 58) = b := ⟨_, rfl⟩
              rw [hcb2] at hD1
              have hn4 : n ≤ 3 → (n : Int) ≤ 4 := fun h => by omega
              clear hcb hy
              rcases hD1 with rfl | ⟨rfl, rfl⟩ | ⟨rfl, rfl, h4⟩
              all_goals rcases hD2 with rfl | ⟨rfl, rfl⟩
              all_goals rcases hD3 with rfl | ⟨rfl, rfl⟩
              all_goals
                (try have h4b := hn4 h4)
                clear hn4
                go_wp2
                all_goals
                  go_ret
                  exact ⟨rfl, HR9.out.bel⟩
      · have h3d : decide ((3000 : Int) < (xn.size : Int) + (xv.size : Int)) = true := decide_eq_true (by omega)
        go_wp2
        go_ret
        exact ⟨rfl, HB2.out⟩
end Go.Proofs.YtkikcinpgbgbdaaDoor
