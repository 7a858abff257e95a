/-
  HealthShut: its walk.
-/
import Derived.Test.YtnffhmkcegiacaaDoorSg
import Derived.StillTailTactics
namespace Go.Proofs.YtnffhmkcegiacaaDoor
open Go.RowKit Go.Own Go.Own.Hl Go.Own.Rng Go.Maps Go.Shelf Go.MuLone Go.Sort
attribute [local go_sem] Oper.semAt_some
section
variable {ea : Nat → Addr}
theorem results_hs (tmps : Array Value) (w : World) (g : Nat) (a : Value) (ht : tmps[6]? = some (.pointer (some ⟨g, 0, none⟩))) (hb : Blk w g 4 #[a]) :
    (results Tryd.f3 tmps).run Tryd.prog w = .ok a w := by
  have c0 : w.cell? ⟨g, 0, none⟩ = some a := hb.cell 0
  simp [results, Tryd.results3, go_sem, ht, c0]
theorem neq_of_eql {P : Program} {t t1 t2 : TypeId} {x y : Value} {W : World} (h : (binOp .eql t (.iface t1 x) (.iface t2 y)).run P W = .ok (.bool true) W) : (binOp .neq t (.iface t1 x) (.iface t2 y)).run P W = .ok (.bool false) W := by
  simp only [binOp, Sem.run_bind] at h ⊢
  cases hr : Sem.run P (Op.equal t (.iface t1 x) (.iface t2 y)) W with
  | ok b w' =>
    rw [hr] at h
    simp only [Result.andThen, Sem.run_pure] at h ⊢
    injection h with h1 h2
    injection h1 with h1
    subst h1 h2
    rfl
  | _ => rw [hr] at h; cases h
theorem err_nsame (a : Addr) (W : World) : (binOp .neq 27 (.iface 101 (.pointer (some a))) (.iface 101 (.pointer (some a)))).run Tryd.prog W = .ok (.bool false) W :=
  neq_of_eql (err_same a W)
theorem hs_leave {w X : World} {D1 D2 D3 : Nat} (N : Nat) (v0 : Value) (hb : Below w.heap.size w X) (hr : Blk X w.heap.size 4 #[v0]) (m1 : X.heap[D1]? = some (.deferred (some []))) (m2 : X.heap[D2]? = some (.deferred (some []))) (m3 : X.heap[D3]? = some (.deferred (some [])))
    (h1 : w.heap.size < D1) (h2 : D1 < D2) (h3 : D2 < D3) (tmps : Array Value) (ht : tmps[6]? = some (.pointer (some ⟨w.heap.size, 0, none⟩))) :
    bodyPostM Fence.wide N Tryd.prog Tryd.f3 (fun e w' => e = Ending.returned (Value.bool true) ∧ Below w.heap.size w w') Exit.ret { tmps := tmps, defers := [{ target := .collected D3, args := #[] }, { target := .collected D2, args := #[] }, { target := .collected D1, args := #[] }] } (X.setCell ⟨w.heap.size, 0, none⟩ (.bool true)) := by
  have k1 : (X.setCell ⟨w.heap.size, 0, none⟩ (.bool true)).heap[D1]? = some (.deferred (some [])) := (setCell_other (by show w.heap.size ≠ D1; omega)).trans m1
  have k2 : (X.setCell ⟨w.heap.size, 0, none⟩ (.bool true)).heap[D2]? = some (.deferred (some [])) := (setCell_other (by show w.heap.size ≠ D2; omega)).trans m2
  have k3 : (X.setCell ⟨w.heap.size, 0, none⟩ (.bool true)).heap[D3]? = some (.deferred (some [])) := (setCell_other (by show w.heap.size ≠ D3; omega)).trans m3
  have ha : Blk (X.setCell ⟨w.heap.size, 0, none⟩ (.bool true)) w.heap.size 4 #[.bool true] := hr.set 0 _
  have hb : Below w.heap.size w (X.setCell ⟨w.heap.size, 0, none⟩ (.bool true)) := hb.setCell (Nat.le_refl _) _
  generalize X.setCell _ _ = Y at k1 k2 k3 ha hb ⊢
  have j2 : (Y.putObj D3 (.deferred none)).heap[D2]? = some (.deferred (some [])) := (World.putObj_heap_other (by omega)).trans k2
  have j1 : ((Y.putObj D3 (.deferred none)).putObj D2 (.deferred none)).heap[D1]? = some (.deferred (some [])) := (World.putObj_heap_other (by omega)).trans ((World.putObj_heap_other (by omega)).trans k1)
  refine ⟨by simp, .inl ⟨_, _, rfl, run_takeDeferred k3, ?_⟩⟩
  refine ⟨by simp, .inl ⟨_, _, rfl, run_takeDeferred j2, ?_⟩⟩
  refine ⟨by simp, .inl ⟨_, _, rfl, run_takeDeferred j1, ?_⟩⟩
  have ha2 : Blk (((Y.putObj D3 (.deferred none)).putObj D2 (.deferred none)).putObj D1 (.deferred none)) w.heap.size 4 #[.bool true] := (World.putObj_heap_other (by omega)).trans ((World.putObj_heap_other (by omega)).trans ((World.putObj_heap_other (by omega)).trans ha))
  exact ⟨_, results_hs _ _ w.heap.size _ ht ha2, rfl, ((hb.trans (belowK_b (w := w) (Nat.le_refl _) Y D3 _ _ (by omega) k3 rfl rfl)).trans (belowK_b (w := w) (Nat.le_refl _) _ D2 _ _ (by omega) j2 rfl rfl)).trans (belowK_b (w := w) (Nat.le_refl _) _ D1 _ _ (by omega) j1 rfl rfl)⟩
set_option maxHeartbeats 4000000 in
set_option maxRecDepth 100000 in
theorem healthShut_any (A : Option Addr) (n c : Nat) (l : List DoV) (ask : ByteArray) (st : Int) (w : World) (he : EnvH w ea) (hn : n ≤ 1048576) (hd : Ds w A n l) (hz : Dz l) (hask : ask.size ≤ 1048576) :
    Calls Tryd.prog 3 #[.slice A n c, .string ask, .int .i64 st] w fun e w' => e = .returned (.bool true) ∧ Below w.heap.size w w' := by
  have HE := Lib.hid he
  have HD := Lib.hid hd
  have HZ := Lib.hid hz
  have h5 := he.room
  clear he hd hz
  have N : Nat := 9
  refine (callsIn_wide (n := N)).1 ?_
  refine callsIn_of_wp_marks Tryd.func3 rfl trivial ?_ rfl
  simp only [Tryd.ntmps3, List.size_toArray, List.length_cons, List.length_nil, Nat.reduceAdd, Nat.reduceSub, Array.replicate_succ, Array.replicate_zero, List.push_toArray, List.append_toArray, List.nil_append, List.cons_append]
  gi_wp2_with fail
  refine ⟨trivial, fun h => (by cases h), ?_⟩
  have hb0 := (Below.refl w.heap.size w).alloc (Nat.le_refl _) (.cells #[.bool false] 4)
  have hr0 := Blk.new w 4 #[.bool false]
  have hs0 : (w.alloc (.cells #[.bool false] 4)).heap.size = w.heap.size + 1 := by simp
  have HB0 := Lib.hid hb0
  have HR0 := Lib.hid hr0
  clear hb0 hr0
  generalize w.alloc _ = W0 at HB0 HR0 hs0 ⊢
  refine (callsIn_wide.2 (first_any W0 (HE.out.below (HB0.out.mono h5)))).mono ?_
  rintro e W1 ⟨rfl, hb⟩
  have hs1 : w.heap.size + 1 ≤ W1.heap.size := by have := hb.size; omega
  have HB1 := Lib.hid (HB0.out.trans (hb.mono (by omega)))
  have HR1 := Lib.hid (HR0.out.below hb (by omega))
  have HD1 := Lib.hid (HD.out.below HB1.out (Nat.le_refl _))
  clear hb HB0 HR0 hs0
  gi_wp2_with fail
  refine ⟨trivial, fun h => (by cases h), ?_⟩
  refine (callsIn_wide.2 (light_any A n c l _ (by omega) HD1.out HZ.out)).mono ?_
  rintro e W1' ⟨b, rfl, hb200, rfl⟩
  have c0 := HR1.out.cell 0
  have f0 := HR1.out.frozen 0
  simp only [List.getElem?_toArray, List.getElem?_cons_zero] at c0
  cases b
  · gi_wp2
    exact ⟨_, results_hs _ _ w.heap.size _ rfl (HR1.out.set 0 _), rfl, HB1.out.setCell (Nat.le_refl _) _⟩
  have hn2 : n ≤ 200 := hb200 rfl
  clear hb200
  by_cases hlt : 3000 < ask.size
  · gi_wp2
    exact ⟨_, results_hs _ _ w.heap.size _ rfl (HR1.out.set 0 _), rfl, HB1.out.setCell (Nat.le_refl _) _⟩
  have hdl : decide (3000 < (ask.size : Int)) = false := by simp; omega
  have hk2 : ask.size ≤ 3000 := by omega
  clear hlt
  gi_wp2_with fail
  refine ⟨trivial, fun h => (by cases h), ?_⟩
  refine (callsIn_wide.2 (new_any 5 (by omega) W1)).mono ?_
  rintro e W2 ⟨bb, ms, mw, rfl, hbd, hb2, g1, g2, g3⟩
  have HBd := Lib.hid hbd
  have HL2 := Lib.hid hb2
  clear hbd hb2 c0 f0
  have HD2 := Lib.hid (HD1.out.below HL2.out (Nat.le_refl _))
  gi_wp2_with fail
  gi_loopw [10] (fun i wr => ∃ (k : Nat) (D : DataW Unit), k ≤ n ∧ i = .int .i64 (k : Int) ∧ Hid (Bd wr bb ms mw 5 0 false (k + 1) 0 D (.map []) ∧ Maps.has D (.string []) = true ∧ Below W1.heap.size W2 wr)) (fun i _ => n - (intOf i).toNat)
  case atStart => exact ⟨0, D0, Nat.zero_le _, rfl, Lib.hid ⟨HBd.out, by kernel_rfl, Below.refl _ _⟩⟩
  case round =>
    obtain ⟨k, D, hk, rfl, hh⟩ := hrel
    by_cases hlt : k < n
    · obtain ⟨ad, x, rfl, hx, a0, a1, a2⟩ := (HD1.out.below (HL2.out.trans hh.out.2.2) (Nat.le_refl _)).at_ hlt
      obtain ⟨s1, s2⟩ := HZ.out x hx
      obtain ⟨xk, xn, xs⟩ := x
      simp only at a0 a1 a2 s1 s2
      have S2 := Lib.hid s2
      clear hx s2
      have i0 : (0 : Int) ≤ (k : Int) := by omega
      have i1 : (k : Int) < (n : Int) := by omega
      by_cases hk1 : xk = 1
      · have q1 : (xk == 1) = true := by simpa using hk1
        clear hk1
        gi_wp2_with fail
        refine wpIn_wide.2 ?_
        go_still_tail 11, (by kernel_rfl)
        change wpList _ _ _ _ _ wr.drew
        have HS := Lib.hid (set_open (w := wr.drew) ⟨hh.out.1.blk, hh.out.1.svc, hh.out.1.wat, hh.out.1.ne1, hh.out.1.ne2, hh.out.1.ne3⟩ (HE.out.below ((HB1.out.trans ((HL2.out.trans hh.out.2.2).mono (by omega))).drew.mono h5)) (by omega) (by omega) xs (by unfold maxLen; omega) xn S2.out)
        have HBw := Lib.hid (show Below W1.heap.size W2 wr.drew from hh.out.2.2.drew)
        generalize wr.drew = w2 at HS HBw ⊢
        go_wp2_with (go_at_call 7; refine HS.out.mono ?_; rintro e w3 ⟨⟨v, rfl⟩, ⟨D', hD', hB'⟩, hg'⟩)
        have HF := Lib.hid (And.intro hB' (And.intro (hD' hh.out.2.1) (HBw.out.grown hg' (by have := HL2.out.size; have := HBw.out.size; omega) (fun r e => by cases e; exact g2))))
        clear hB' hg' hD' HS HBw
        gi_wp2
        exact ⟨⟨k + 1, D', by omega, by go_num, HF⟩, by simp [intOf]; omega⟩
      · have q1 : (xk == 1) = false := by simpa using hk1
        clear hk1
        gi_wp2
        exact ⟨⟨k + 1, D, by omega, by go_num, Lib.hid ⟨⟨hh.out.1.blk, hh.out.1.svc.mono (by omega), hh.out.1.wat, hh.out.1.ne1, hh.out.1.ne2, hh.out.1.ne3⟩, hh.out.2.1, hh.out.2.2⟩⟩, by simp [intOf]; omega⟩
    · obtain rfl : k = n := by omega
      obtain ⟨hbd, hD, hb⟩ := hh.out
      have hs2 := HL2.out.size
      have hsr := hb.size
      have HL3 := Lib.hid (HL2.out.trans hb)
      have HBd3 := Lib.hid hbd
      have HDD := Lib.hid hD
      clear hh hbd hD hb HBd
      generalize wr = W3 at *
      gi_wp2_with fail
      refine ⟨trivial, fun h => (by cases h), ?_⟩
      refine (callsIn_wide.2 (services_any HBd3.out (by omega))).mono ?_
      rintro e W4 ⟨⟨g, cap, rfl, hrow⟩, hg4⟩
      have hs4 := hg4.size
      have HBd4 := Lib.hid (HBd3.out.stay hg4)
      have HL4 := Lib.hid (HL3.out.trans ((below_grown hg4).mono (by omega)))
      have HRow := Lib.hid hrow
      clear hrow hg4
      have HZ0 := Lib.hid (And.intro HL4.out (And.intro HBd4.out HRow.out))
      gi_wp2_with fail
      refine ⟨trivial, fun h => (by cases h), ?_⟩
      refine (callsIn_wide.2 (each_any bb _)).mono ?_
      rintro e Z ⟨rfl, hZ⟩
      have hsz1 : (W4.alloc (.cells #[.slice (some ⟨g, 0, none⟩) (namesOf D).length cap] 33)).heap.size = W4.heap.size + 1 := by simp
      have hsz2 : ((W4.alloc (.cells #[.slice (some ⟨g, 0, none⟩) (namesOf D).length cap] 33)).alloc (.cells #[.slice none 0 0] 35)).heap.size = W4.heap.size + 1 + 1 := by simp
      have hblZ : Below W4.heap.size W4 Z := by
        rw [hZ]
        exact (((Below.refl _ _).alloc (Nat.le_refl _) _).alloc (by omega) _).alloc (by omega) _
      have hnZ : Blk Z W4.heap.size 33 #[.slice (some ⟨g, 0, none⟩) (namesOf D).length cap] := by
        rw [hZ]; exact ((Blk.new W4 _ _).alloc _).alloc _
      have hsZ : Blk Z (W4.heap.size + 1) 35 #[.slice none 0 0] := by
        rw [hZ]
        have h := Blk.new (W4.alloc (.cells #[.slice (some ⟨g, 0, none⟩) (namesOf D).length cap] 33)) 35 #[.slice none 0 0]
        rw [hsz1] at h
        exact h.alloc _
      have hcZ : Blk Z (W4.heap.size + 1 + 1) 25 #[.pointer (some ⟨bb, 0, none⟩)] := by
        rw [hZ]
        have h := Blk.new ((W4.alloc (.cells #[.slice (some ⟨g, 0, none⟩) (namesOf D).length cap] 33)).alloc (.cells #[.slice none 0 0] 35)) 25 #[.pointer (some ⟨bb, 0, none⟩)]
        rw [hsz2] at h
        exact h
      have hzZ : Z.heap.size = W4.heap.size + 3 := by rw [hZ]; simp
      have hgl := (HRow.out.lt g (by simp [Value.ownBlock]))
      have hsg : Sg W1 W3.heap.size bb ms mw (k + 1) false D W4.heap.size g cap Z := by
        have h1 := HBd3.out.blk.lt
        have h2 := HBd3.out.svc.lt
        have h3 := HBd3.out.wat.lt
        refine ⟨HL4.out.trans (hblZ.mono (by have := HL4.out.size; omega)), ?_, hnZ, ?_, g1, by omega, h1, h2, h3, hs4, by omega⟩
        · rw [hZ]
          exact ((HBd4.out.stay (World.grownBy_alloc _ _ none)).stay (World.grownBy_alloc _ _ none)).stay (World.grownBy_alloc _ _ none)
        · rw [hZ]
          exact ((HRow.out.alloc _).alloc _).alloc _
      rw [hsz2]
      have HSG := Lib.hid hsg
      have HSZ := Lib.hid hsZ
      have HCZ := Lib.hid hcZ
      have hl3 : W3.heap.size ≤ W4.heap.size := hs4
      clear hZ hsz1 hsz2 HZ0 hsg hsZ hcZ hnZ hblZ HRow HBd4 HL4
      generalize W4.heap.size = nb at *
      have hzl : nb + 3 ≤ Z.heap.size := by omega
      clear hzZ
      gi_wp2
      refine range_rec (gf := 19) (lb := #[.pointer (some ⟨nb + 1 + 1, 0, none⟩)]) rfl (enters_of Tryd.func19 (by kernel_rfl) rfl) (fun fn C hC => ?_)
      have HC := Lib.hid hC
      clear hC
      have hwsz : ((Z.alloc (.deferred (some []))).alloc (.loop (C .ready none))).heap.size = Z.heap.size + 2 := by simp
      refine (each_in (N - 1) (Z.heap.size + 1) (nb + 1 + 1) (J1 Z C (nb + 1) D)
        ((Z.alloc (.deferred (some []))).alloc (.loop (C .ready none))) (((HSG.out.alloc _).alloc _).bd) (by omega) HDD.out ((HCZ.out.alloc _).alloc _) ?_ ?_ ?_).mono ?_
      · intro V hV
        rw [hwsz] at hV
        exact ⟨RL.init hV, _, ((HSZ.out.alloc _).alloc _).below hV (by omega), World.ownsRow_nil _ _ _ _⟩
      · rintro V p U ⟨hrl, _⟩ k h1 h2
        rw [hwsz] at h1
        exact hrl.same k h2 (by omega) (by omega)
      · rintro V p x U hV ⟨hrl, v, hbk, hrow⟩ hx hhx hNl
        rw [hwsz] at hV
        refine yield_rec HC.out hrl.entry rfl ?_
        gi_wp2
        refine ⟨hrl.entry, ?_⟩
        have hrl2 := Lib.hid (hrl.put .busy none)
        have hbk2 : Blk (U.putObj (Z.heap.size + 1) (.loop (C .busy none))) (nb + 1) 35 #[v] := (World.putObj_heap_other (by omega)).trans hbk
        have hrow2 := hrow.kept (w' := U.putObj (Z.heap.size + 1) (.loop (C .busy none))) (grownBy_putObj' _ _ _) (Or.inr (fun e => by have := (hrow.lt _ e).1; have := hrl.vsize; omega))
        obtain ⟨zb, hzb⟩ : ∃ z, Z.heap.size + 1 = z := ⟨_, rfl⟩
        have EZ := Lib.hid hzb
        have hVl := hrl.vsize
        rw [hzb]
        rw [hzb] at hrl2 hbk2 hrow2
        have hVU := hrl2.out.size
        clear hzb hrl hbk hrow
        generalize U.putObj _ _ = U2 at hrl2 hbk2 hrow2 hVU ⊢
        have HBK := Lib.hid hbk2
        have HRW := Lib.hid hrow2
        have c0 := hbk2.cell 0
        have f0 := (hbk2.alloc (.cells #[.int .i64 (statB false D x)] 3)).frozen 0
        have hHt : (namesOf D).take (p + 1) = (namesOf D).take p ++ [x] := by
          rw [List.take_add_one, hx]; rfl
        have HT := Lib.hid hHt
        have hp : p < (namesOf D).length := (List.getElem?_eq_some_iff.1 hx).1
        have hmL : maxLen = 9223372036854775807 := rfl
        have HML := Lib.hid hmL
        obtain ⟨j0, hj, hy0, hy1, hy2⟩ := info_parts infoI
        simp only [List.getElem?_toArray, List.getElem?_cons_zero] at c0
        clear hbk2 hrow2 hHt hx hmL
        generalize hsx : statB false D x = sx at *
        have ESX := Lib.hid hsx
        clear hsx
        gi_wp2_with (gi_at_builtin; refine wpListIn_append_own _ rfl _ _ 35 rfl V.heap.size 3 j0 (.int .i64 0) 1 8 Tryd.underlying35 hj hy0 hy1 hy2 rfl (by decide) _ _ _ rfl (HRW.out.alloc _) ⟨U2.heap.size, 0, none⟩ 1 1 [.int .i64 sx] rfl rfl (cell_one_new _ _ _) (by simp [Value.oneCell']) (by have := HML.out; omega) (by omega) (by simp; omega) ?_; intro v' w3 hown' hg3 hnil3; clear hnil3; obtain ⟨A', cap', rfl⟩ := row_form hown'; have HG3 := Lib.hid (show World.grownBy _ w3 v.ownBlock from hg3); clear hg3; have hb3 := (HBK.out.alloc (.cells #[.int .i64 sx] 3)).grown HG3.out (fun e => by have := (HRW.out.lt _ e.symm).1; omega); have c3 := hb3.cell 0; have f3 := hb3.frozen 0; simp only [List.getElem?_toArray, List.getElem?_cons_zero] at c3)
        have hrl3 := ((hrl2.out.step (World.grownBy_alloc U2 (.cells #[.int .i64 sx] 3) none) (by omega) (fun r e => by cases e)).step HG3.out (by omega) (fun r e => Or.inr (HRW.out.lt r e).1)).step (grown_set w3 ⟨nb + 1, 0, none⟩ (.slice A' (p + 1) cap')) (by omega) (fun r e => Or.inl (by cases e; rfl))
        have ez := EZ.out
        subst ez
        have hrow3 : w3.ownsRow V.heap.size 3 1 (.slice A' (p + 1) cap') (p + 1) (((namesOf D).take (p + 1)).map (fun x => Value.int .i64 (statB false D x))) := by
          rw [HT.out, List.map_append, List.map_cons, List.map_nil, ESX.out]
          exact hown'
        refine ⟨hrl3.entry, rfl, hrl3.put .ready none, _, (World.putObj_heap_other (by omega)).trans (hb3.set 0 _), ?_⟩
        exact (hrow3.kept (grown_set w3 ⟨nb + 1, 0, none⟩ _) (Or.inr (fun e => by have h : V.heap.size ≤ nb + 1 := (hrow3.lt _ e).1; omega))).kept (grownBy_putObj' _ (Z.heap.size + 1) _) (Or.inr (fun e => by have := (hrow3.lt _ e).1; omega))
      · rintro e U ⟨⟨v, rfl⟩, V, hV, hrl, sv, hsb, hsr2⟩
        refine ⟨⟨v, rfl⟩, .ready, none, by decide, hrl.entry, ?_⟩
        have hvs := hrl.vsize
        have hrl9 := hrl.put .exhausted none
        have hss : Ss W3.heap.size bb D nb g (nb + 1) sv (U.putObj (Z.heap.size + 1) (.loop (C .exhausted none))) := by
          have hr := (hsr2.kept (grownBy_putObj' U (Z.heap.size + 1) (.loop (C .exhausted none))) (Or.inr (fun e => by have := (hsr2.lt _ e).1; omega)))
          rw [List.take_of_length_le (Nat.le_refl _)] at hr
          exact ⟨(World.putObj_heap_other (by omega)).trans hsb, row_base hr (by omega), HSG.out.l1, by omega, by omega, by omega, fun e => by have := (hsr2.lt _ e).1; omega⟩
        have HS1 := Lib.hid (show Sb W1 W3.heap.size bb ms mw (k + 1) false D nb g cap sv Z.heap.size _ from ⟨HSG.out.grown hrl9.grown (fun r e => by cases e; exact ⟨by omega, by omega, by omega⟩), hss, hrl9.mark (by omega), by omega⟩)
        clear hrl hrl9 hss hsb hsr2 hV HSG HSZ HCZ HC
        generalize U.putObj _ _ = T1 at HS1 ⊢
        generalize Z.heap.size = D1 at *
        obtain ⟨A2, cap2, rfl⟩ := row_form HS1.out.ss.row
        simp only [Behind]
        gi_wp2_with fail
        refine ⟨trivial, fun h => (by cases h), ?_⟩
        refine (callsIn_wide.2 (shut_any HS1.out.sg.bd)).mono ?_
        rintro e T2 ⟨rfl, hb2, hg2⟩
        have HS2 := Lib.hid (HS1.out.turn hb2 hg2)
        clear hb2 hg2
        gi_wp2_with fail
        refine ⟨trivial, fun h => (by cases h), ?_⟩
        refine (callsIn_wide.2 (shut_any HS2.out.sg.bd)).mono ?_
        rintro e T3 ⟨rfl, hb3, hg3⟩
        have HS3 := Lib.hid (HS2.out.turn hb3 hg3)
        clear hb3 hg3
        gi_wp2_with fail
        refine ⟨trivial, fun h => (by cases h), ?_⟩
        have hE3 := HE.out.below ((HB1.out.trans (HS3.out.sg.bel.mono (by omega))).mono h5)
        refine (callsIn_wide.2 (set_gone HS3.out.sg.bd hE3 (by omega) (by omega) ask (by unfold maxLen; omega) _ (st_mod st))).mono ?_
        rintro e T4 ⟨rfl, hg4⟩
        have HS4 := Lib.hid (HS3.out.stay hg4)
        clear hg4 hE3
        gi_wp2_with fail
        refine ⟨trivial, fun h => (by cases h), ?_⟩
        refine (callsIn_wide.2 (forget_gone HS4.out.sg.bd ask (by unfold maxLen; omega))).mono ?_
        rintro e T5 ⟨rfl, hg5⟩
        have HS5 := Lib.hid (HS4.out.stay hg5)
        clear hg5 HS1 HS2 HS3 HS4
        gi_wp2_with fail
        refine ⟨trivial, fun h => (by cases h), ?_⟩
        refine (callsIn_wide.2 (each_any bb _)).mono ?_
        rintro e T6 ⟨rfl, hT6⟩
        obtain ⟨hi6, hc6, hz6⟩ := two_boxes T5 (.int .i64 0) (.pointer (some ⟨bb, 0, none⟩)) 3 25
        have hS6 := (HS5.out.alloc (.cells #[.int .i64 0] 3)).alloc (.cells #[.pointer (some ⟨bb, 0, none⟩)] 25)
        rw [← hT6] at hi6 hc6 hz6 hS6
        have hsz5 : (T5.alloc (.cells #[.int .i64 0] 3)).heap.size = T5.heap.size + 1 := by simp
        rw [hsz5]
        have HF := Lib.hid HS5.out.farbox
        have HS6 := Lib.hid hS6
        have HI6 := Lib.hid hi6
        have HC6 := Lib.hid hc6
        have hib := HF.out.f2
        have hib2 := HF.out.f4
        clear hT6 hi6 hc6 hS6 hsz5 HS5
        generalize T5.heap.size = ib at *
        have hz6l : ib + 2 ≤ T6.heap.size := by omega
        clear hz6
        gi_wp2
        refine range_rec (gf := 19) (lb := #[.pointer (some ⟨ib + 1, 0, none⟩)]) rfl (enters_of Tryd.func19 (by kernel_rfl) rfl) (fun fn C hC => ?_)
        have HC := Lib.hid hC
        clear hC
        have hwsz : ((T6.alloc (.deferred (some []))).alloc (.loop (C .ready none))).heap.size = T6.heap.size + 2 := by simp
        refine (each_in (N - 1) (T6.heap.size + 1) (ib + 1) (J2 T6 C ib)
          ((T6.alloc (.deferred (some []))).alloc (.loop (C .ready none))) (((HS6.out.alloc _).alloc _).sg.bd) (by omega) HDD.out ((HC6.out.alloc _).alloc _) ?_ ?_ ?_).mono ?_
        · intro V hV
          rw [hwsz] at hV
          exact ⟨RL.init hV, ((HI6.out.alloc _).alloc _).below hV (by omega)⟩
        · rintro V p U ⟨hrl, _⟩ k h1 h2
          rw [hwsz] at h1
          exact hrl.same k h2 (by omega) (by omega)
        · rintro V p x U hV ⟨hrl, hbk⟩ hx hhx hNl
          have hp : p < (namesOf D).length := (List.getElem?_eq_some_iff.1 hx).1
          have hst : statB true D x = 2 := by unfold statB; rw [if_pos hhx]; rfl
          rw [hst]
          refine yield_rec HC.out hrl.entry rfl ?_
          clear hx hhx hst
          gi_wp2
          refine ⟨hrl.entry, ?_⟩
          have hrl2 := Lib.hid (hrl.put .busy none)
          have hbk2 : Blk (U.putObj (T6.heap.size + 1) (.loop (C .busy none))) ib 3 #[.int .i64 (p : Int)] := (World.putObj_heap_other (by omega)).trans hbk
          clear hrl hbk
          generalize U.putObj _ _ = U2 at hrl2 hbk2 ⊢
          have HBK := Lib.hid hbk2
          have c0 := hbk2.cell 0
          have f0 := hbk2.frozen 0
          simp only [List.getElem?_toArray, List.getElem?_cons_zero] at c0
          clear hbk2
          gi_wp2
          have hrl3 := hrl2.out.step (grown_set U2 ⟨ib, 0, none⟩ (.int .i64 ((p : Int) + 1))) (by omega) (fun r e => Or.inl (by cases e; rfl))
          exact ⟨hrl3.entry, rfl, hrl3.put .ready none, (World.putObj_heap_other (by omega)).trans (HBK.out.set 0 _)⟩
        · rintro e U ⟨⟨v, rfl⟩, V, hV, hrl, hbi⟩
          refine ⟨⟨v, rfl⟩, .ready, none, by decide, hrl.entry, ?_⟩
          have hrl9 := hrl.put .exhausted none
          have HS7 := Lib.hid (HS6.out.atbox HF.out hrl9.grown)
          have HI7 := Lib.hid (show Blk (U.putObj (T6.heap.size + 1) (.loop (C .exhausted none))) ib 3 #[.int .i64 ((namesOf D).length : Int)] from (World.putObj_heap_other (by omega)).trans hbi)
          have HM7 := Lib.hid (hrl9.mark (by omega))
          clear hrl hrl9 hbi hV HS6 HI6 HC6 HC
          generalize U.putObj _ _ = T7 at HS7 HI7 HM7 ⊢
          generalize T6.heap.size = D2 at *
          simp only [Behind]
          gi_wp2_with fail
          refine ⟨trivial, fun h => (by cases h), ?_⟩
          refine (callsIn_wide.2 (resume_any HS7.out.sg.bd)).mono ?_
          rintro e T8 ⟨rfl, hb8, hg8⟩
          have HS8 := Lib.hid (HS7.out.turn hb8 hg8)
          have HI8 := Lib.hid (show Blk T8 ib 3 #[.int .i64 ((namesOf D).length : Int)] from far_kept HI7.out hg8 HS7.out.sg.l1 HF.out.f1)
          have HM8 := Lib.hid (far_kept HM7.out hg8 HS7.out.sg.l1 (by have := HF.out.f1; omega))
          clear hb8 hg8 HS7 HI7 HM7
          have hE8 := (HE.out.below ((HB1.out.trans (HS8.out.sg.bel.mono (by omega))).mono h5)).gone
          have hq1 := err_nsame (ea 0) T8
          have i0 := HI8.out.cell 0
          have i1 := HI8.out.frozen 0
          have n0 := HS8.out.sg.nbk.cell 0
          have s0 := HS8.out.ss.sbk.cell 0
          simp only [List.getElem?_toArray, List.getElem?_cons_zero] at i0 n0 s0
          unfold goneV
          gi_wp2_with fail
          refine ⟨trivial, fun h => (by cases h), ?_⟩
          have hz9 : (T8.setCell ⟨ib, 0, none⟩ (.int .i64 0)).heap.size = T8.heap.size := setCell_size _ _
          have hS9 := HS8.out.atbox HF.out (grown_set T8 ⟨ib, 0, none⟩ (.int .i64 0))
          have hI9 := HI8.out.set 0 (.int .i64 0)
          have hM9 : (T8.setCell ⟨ib, 0, none⟩ (.int .i64 0)).heap[D2]? = some (.deferred (some [])) := (setCell_other (by show ib ≠ D2; omega)).trans HM8.out
          have hil := HI8.out.lt
          have hD2l : D2 < T8.heap.size := (Array.getElem?_eq_some_iff.1 HM8.out).1
          clear hE8 hq1 i0 i1 n0 s0
          generalize T8.setCell _ _ = T9 at hz9 hS9 hI9 hM9 ⊢
          refine (callsIn_wide.2 (each_any bb _)).mono ?_
          rintro e T10 ⟨rfl, hT10⟩
          have hS10 := hS9.alloc (.cells #[.pointer (some ⟨bb, 0, none⟩)] 25)
          have hI10 := hI9.alloc (.cells #[.pointer (some ⟨bb, 0, none⟩)] 25)
          have hC10 := Blk.new T9 25 #[.pointer (some ⟨bb, 0, none⟩)]
          have hM10 := new_kept hM9 (World.grownBy_alloc T9 (.cells #[.pointer (some ⟨bb, 0, none⟩)] 25) none)
          have hz10 : (T9.alloc (.cells #[.pointer (some ⟨bb, 0, none⟩)] 25)).heap.size = T9.heap.size + 1 := by simp
          rw [← hT10] at hS10 hI10 hC10 hM10 hz10
          have HS10 := Lib.hid hS10
          have HI10 := Lib.hid hI10
          have HC10 := Lib.hid hC10
          have HM10 := Lib.hid hM10
          have hil9 : ib < T9.heap.size := by omega
          have hDl9 : D2 < T9.heap.size := by omega
          clear hS9 hI9 hM9 hz9 hS10 hI10 hC10 hM10 hT10 HS8 HI8 HM8 hil hD2l
          generalize T9.heap.size = cb at *
          have hz10l : cb + 1 ≤ T10.heap.size := by omega
          clear hz10
          gi_wp2
          refine range_rec (gf := 19) (lb := #[.pointer (some ⟨cb, 0, none⟩)]) rfl (enters_of Tryd.func19 (by kernel_rfl) rfl) (fun fn C hC => ?_)
          have HC := Lib.hid hC
          clear hC
          have hwsz : ((T10.alloc (.deferred (some []))).alloc (.loop (C .ready none))).heap.size = T10.heap.size + 2 := by simp
          refine (each_in (N - 1) (T10.heap.size + 1) cb (J2 T10 C ib)
            ((T10.alloc (.deferred (some []))).alloc (.loop (C .ready none))) (((HS10.out.alloc _).alloc _).sg.bd) (by omega) HDD.out ((HC10.out.alloc _).alloc _) ?_ ?_ ?_).mono ?_
          · intro V hV
            rw [hwsz] at hV
            exact ⟨RL.init hV, ((HI10.out.alloc _).alloc _).below hV (by omega)⟩
          · rintro V p U ⟨hrl, _⟩ k h1 h2
            rw [hwsz] at h1
            exact hrl.same k h2 (by omega) (by omega)
          · rintro V p x U hV ⟨hrl, hbk⟩ hx hhx hNl
            have hp : p < (namesOf D).length := (List.getElem?_eq_some_iff.1 hx).1
            have HXX := Lib.hid hx
            refine yield_rec HC.out hrl.entry rfl ?_
            clear hx hhx
            gi_wp2
            refine ⟨hrl.entry, ?_⟩
            have hrl2 := Lib.hid (hrl.put .busy none)
            have hbk2 : Blk (U.putObj (T10.heap.size + 1) (.loop (C .busy none))) ib 3 #[.int .i64 (p : Int)] := (World.putObj_heap_other (by omega)).trans hbk
            clear hrl hbk
            generalize U.putObj _ _ = U2 at hrl2 hbk2 ⊢
            have HBK := Lib.hid hbk2
            have hS11 := HS10.out.atbox HF.out hrl2.out.grown
            obtain ⟨g2, cap3, cur3, e3, _, hk3, hc3⟩ := row_blk hS11.ss.row (by omega)
            injection e3 with e3 _ _
            subst e3
            have i0 := hbk2.cell 0
            have i1 := hbk2.frozen 0
            have n0 := hS11.sg.nbk.cell 0
            have s0 := hS11.ss.sbk.cell 0
            have ng := hS11.sg.row.cellAt p (by omega)
            have sgc := hk3.cell p
            rw [hc3 p hp, List.getElem?_map, HXX.out] at sgc
            rw [List.getElem?_map, HXX.out] at ng
            simp only [List.getElem?_toArray, List.getElem?_cons_zero, Option.map_some] at i0 n0 s0 ng sgc
            clear hbk2 hS11 hk3 hc3
            have d1 : decide ((namesOf D).length ≤ p) = false := by simp; omega
            have d2 : (0 : Int) ≤ (p : Int) := by omega
            have d3 : (p : Int) < ((namesOf D).length : Int) := by omega
            generalize statB false D x = sx at *
            gi_wp2
            have hrl3 := hrl2.out.step (grown_set U2 ⟨ib, 0, none⟩ (.int .i64 ((p : Int) + 1))) (by omega) (fun r e => Or.inl (by cases e; rfl))
            exact ⟨hrl3.entry, rfl, hrl3.put .ready none, (World.putObj_heap_other (by omega)).trans (HBK.out.set 0 _)⟩
          · rintro e U ⟨⟨v, rfl⟩, V, hV, hrl, hbi⟩
            refine ⟨⟨v, rfl⟩, .ready, none, by decide, hrl.entry, ?_⟩
            have hrl9 := hrl.put .exhausted none
            have hg11 := hrl9.grown
            have HS11 := Lib.hid (HS10.out.atbox HF.out hg11)
            have HI11 := Lib.hid (show Blk (U.putObj (T10.heap.size + 1) (.loop (C .exhausted none))) ib 3 #[.int .i64 ((namesOf D).length : Int)] from (World.putObj_heap_other (by omega)).trans hbi)
            have HM11 := Lib.hid (hrl9.mark (by omega))
            have HN11 := Lib.hid ((hg11.block D2 (by omega) (fun e => by have := Option.some.inj e; omega)).trans HM10.out)
            clear hrl hrl9 hbi hV HS10 HI10 HC10 HC HM10 hg11
            generalize U.putObj _ _ = T11 at HS11 HI11 HM11 HN11 ⊢
            generalize T10.heap.size = D3 at *
            have HR11 := Lib.hid (HR1.out.below HS11.out.sg.bel (by omega))
            have i0 := HI11.out.cell 0
            have n0 := HS11.out.sg.nbk.cell 0
            have r0 := HR11.out.cell 0
            have r1 := HR11.out.frozen 0
            simp only [List.getElem?_toArray, List.getElem?_cons_zero] at i0 n0 r0
            simp only [Behind]
            gi_wp2_with fail
            exact hs_leave N _ (HB1.out.trans (HS11.out.sg.bel.mono (by omega))) HR11.out HS11.out.mark HN11.out HM11.out (by have := HS11.out.far; omega) (by omega) (by omega) _ rfl
end
end Go.Proofs.YtnffhmkcegiacaaDoor
