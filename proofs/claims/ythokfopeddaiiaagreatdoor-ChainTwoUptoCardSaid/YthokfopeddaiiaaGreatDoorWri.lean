/-
  Contracts: chain.Wrap[int, int] and the function that it makes, slices.Backward.
-/
import Derived.Test.YthokfopeddaiiaaGreatDoorProg
import Derived.Test.YthokfopeddaiiaaGreatDoorFn
import Derived.Test.YthokfopeddaiiaaGreatDoorRng
import Derived.WalkKit
import Derived.Lib.Hide
import Derived.LoopTactic
import Derived.Outline
import Derived.Laws.EntriesVeiled
namespace Go.Proofs.YthokfopeddaiiaaGreatDoor
open Go.RowKit Go.Own Go.Own.Fn Go.Own.Rng Go.Shelf
attribute [local go_sem] Oper.semAt_some
variable {σ X Y : Type}

set_option maxRecDepth 100000 in
theorem wrap1_i (S : Stt σ) (L L2 : Lvl X Y) (b6 b7 : Nat) (av gv : Value) (A : (X → σ → Y × σ) → X → σ → Y × σ) (G : X → σ → Y × σ) (w0 : World) (hb6 : Blk w0 b6 54 #[av]) (hb7 : Blk w0 b7 51 #[gv]) (ex : Nat → Prop) (hrw : ∀ g, S.row = some g → ex g) (h6 : ¬ ex b6) (h7 : ¬ ex b7)
    (hA : Arnd Tryz.prog S L L2 ex av A w0) (hG : Fnc Tryz.prog S L2 ex gv G w0) : Fnc Tryz.prog S L ex (.func (.func 43) #[] #[.pointer (some ⟨b6, 0, none⟩), .pointer (some ⟨b7, 0, none⟩)]) (A G) w0 := by
  refine ⟨43, #[], #[.pointer (some ⟨b6, 0, none⟩), .pointer (some ⟨b7, 0, none⟩)], rfl, enters_of Tryz.func43 (by kernel_rfl) rfl, fun w s xv x hg hs hx => ?_⟩
  show Calls Tryz.prog 43 #[xv, .pointer (some ⟨b6, 0, none⟩), .pointer (some ⟨b7, 0, none⟩)] w _
  have c6 : w.cell? ⟨b6, 0, none⟩ = some av := (Blk.kx hb6 hg h6).cell 0
  have c7 : w.cell? ⟨b7, 0, none⟩ = some gv := (Blk.kx hb7 hg h7).cell 0
  have HG := Lib.hid (hG.kx hg)
  obtain ⟨K, first, cap, rfl, hE, hc⟩ := hA
  have HC := Lib.hid (hc w s xv x gv G ex hrw hg HG.out hs hx)
  have hE : ∀ args w, (callFunc K args).run Tryz.prog w = .ok (.enter K args) w := hE
  clear hc hs hx hG HG hb6 hb7 h6 h7 hg
  go_enter Tryz.func43, Tryz.ntmps43
  go_wp2_with fail
  refine HC.out.mono ?_
  rintro e w1 ⟨yv, rfl, h1, h2, h3⟩
  have HR := Lib.hid (And.intro h1 (And.intro h2 h3))
  clear h1 h2 h3 HC
  go_wp2
  go_ret
  exact ⟨yv, rfl, HR.out⟩


set_option maxRecDepth 100000 in
theorem backward_i (A : Option Addr) (n c : Nat) (w : World) : Calls Tryz.prog 42 #[.slice A n c] w fun e w' => e = .returned (.func (.func 83) #[] #[.pointer (some ⟨w.heap.size, 0, none⟩)]) ∧ w' = w.alloc (.cells #[.slice A n c] 60) := by
  go_enter Tryz.func42, Tryz.ntmps42
  go_wp2
  go_ret
  exact ⟨rfl, rfl⟩

set_option maxHeartbeats 1000000 in
set_option maxRecDepth 100000 in
theorem back_in_i (m lp Bx n c : Nat) (A : Option Addr) (vs : Nat → Value) (J : Nat → World → Prop) (hn : n ≤ 1000000000000)
    (hJ : ∀ r W, J r W → W.cell? ⟨Bx, 0, none⟩ = some (.slice A n c) ∧ ∀ j, j < n → ∃ ad, A = some ad ∧ W.cell? (ad.add j) = some (vs j))
    (hY : ∀ r W, J (r + 1) W → r < n → YieldAt Fence.wide (m - 1) Tryz.prog lp #[.int .i64 (r : Int), vs r] W fun e W' => e = .returned (.bool true) ∧ J r W')
    (W : World) (h0 : J n W) :
    CallsIn Fence.wide m Tryz.prog 83 #[.func (.yield lp) #[] #[], .pointer (some ⟨Bx, 0, none⟩)] W fun e W' => (∃ v, e = .returned v) ∧ J 0 W' := by
  have HJ := Lib.hid hJ
  have HY := Lib.hid hY
  clear hJ hY
  refine callsIn_of_wp Tryz.func83 rfl trivial ?_ rfl
  simp only [Tryz.ntmps83, List.size_toArray, List.length_cons, List.length_nil, Nat.reduceAdd, Nat.reduceSub, Array.replicate_succ, Array.replicate_zero, List.push_toArray, List.append_toArray, List.nil_append, List.cons_append]
  obtain ⟨c0, _⟩ := HJ.out n W h0
  have H0 := Lib.hid h0
  clear h0
  gi_wp2
  gi_loopw [3] (fun i wr => ∃ r : Nat, r ≤ n ∧ i = .int .i64 ((r : Int) - 1) ∧ Hid (J r wr)) (fun i _ => (intOf i + 1).toNat)
  case atStart => exact ⟨n, Nat.le_refl _, by go_num, H0⟩
  case round =>
    obtain ⟨r, hr, rfl, hj⟩ := hrel
    by_cases h : r = 0
    · subst h
      gi_wp2
      go_end0
      exact ⟨⟨_, rfl⟩, hj.out⟩
    · obtain ⟨r, rfl⟩ : ∃ k, r = k + 1 := ⟨r - 1, by omega⟩
      obtain ⟨hc, hcell⟩ := HJ.out (r + 1) wr hj.out
      obtain ⟨ad, rfl, q⟩ := hcell r (by omega)
      obtain ⟨fn, tmps, assign, body, hy, hR⟩ := HY.out r wr hj.out (by omega)
      clear hcell
      gi_wp2_with fail
      refine ⟨fun h => (by cases h), ?_⟩
      refine hR.mono ?_
      rintro e W3 ⟨rfl, hJ3⟩
      have H3 := Lib.hid hJ3
      clear hy hR hJ3 hj
      gi_wp2
      go_roundw
      case rel => exact ⟨r, by omega, by go_num, H3⟩
      case measure => simp [intOf]

set_option maxHeartbeats 1000000 in
set_option maxRecDepth 100000 in
theorem wrap_i (S : Stt σ) (L : Nat → Lvl X Y) (k : Nat) (ex : Nat → Prop) (v : Value) (F : X → σ → Y × σ) (A : Option Addr) (n c : Nat) (As : List ((X → σ → Y × σ) → X → σ → Y × σ)) (w : World) (hrow : ∀ g, S.row = some g → ex g) (hex : ∀ g, ex g → g < w.heap.size) (hn : n ≤ 1000000000000)
    (hv : Fnc Tryz.prog S (L (k + n)) ex v F w) (hA : IsArs Tryz.prog S L k ex w A n As) :
    Calls Tryz.prog 19 #[v, .slice A n c] w fun e w' => ∃ r, e = .returned r ∧ Fnc Tryz.prog S (L k) ex r (wrapS As F) w' ∧ Below w.heap.size w w' := by
  have HV := Lib.hid hv
  have HA := Lib.hid hA
  obtain ⟨K, first, cap, rfl, _⟩ := hv
  obtain ⟨N, hN⟩ : ∃ N : Nat, 2 ≤ N := ⟨2, Nat.le_refl _⟩
  clear hA
  refine (callsIn_wide (n := N)).1 ?_
  refine callsIn_of_wp_marks Tryz.func19 rfl trivial ?_ rfl
  simp only [Tryz.ntmps19, List.size_toArray, List.length_cons, List.length_nil, Nat.reduceAdd, Nat.reduceSub, Array.replicate_succ, Array.replicate_zero, List.push_toArray, List.append_toArray, List.nil_append, List.cons_append]
  gi_wp2_with fail
  refine ⟨trivial, fun h => (by cases h), ?_⟩
  refine (callsIn_wide.2 (backward_i A n c _)).mono ?_
  rintro e Z ⟨rfl, hZ⟩
  have hsz : (w.alloc (.cells #[.func (.func K) first cap] 51)).heap.size = w.heap.size + 1 := by simp
  rw [hsz]
  have SL : Hid (Blk Z (w.heap.size + 1) 60 #[.slice A n c]) := Lib.hid (by
    rw [hZ]
    have h := Blk.new (w.alloc (.cells #[.func (.func K) first cap] 51)) 60 #[.slice A n c]
    rwa [hsz] at h)
  have BF : Hid (Blk Z w.heap.size 51 #[.func (.func K) first cap]) := Lib.hid (by rw [hZ]; exact (Blk.new w 51 #[.func (.func K) first cap]).alloc _)
  have BZ : Hid (Below w.heap.size w Z) := Lib.hid (by rw [hZ]; exact ((Below.refl w.heap.size w).alloc (Nat.le_refl _) _).alloc (by simp) _)
  have hzz : Z.heap.size = w.heap.size + 2 := by rw [hZ]; simp
  clear hZ hsz
  have HZZ := Lib.hid hzz
  clear hzz
  gi_wp2_with fail
  obtain ⟨vs, hvs⟩ : ∃ vs : Nat → Value, ∀ j B, As[j]? = some B → ∃ ad, A = some ad ∧ ad.block < w.heap.size ∧ w.cell? (ad.add j) = some (vs j) ∧ Arnd Tryz.prog S (L (k + j)) (L (k + j + 1)) ex (vs j) B w := by
    refine Classical.skolem.1 (show ∀ j : Nat, ∃ av : Value,  ∀ B, As[j]? = some B → ∃ ad, A = some ad ∧ ad.block < w.heap.size ∧ w.cell? (ad.add j) = some av ∧ Arnd Tryz.prog S (L (k + j)) (L (k + j + 1)) ex av B w from fun j => ?_)
    rcases h : As[j]? with _ | B
    · exact ⟨undef, fun B hB => by cases hB⟩
    · obtain ⟨ad, av, h1, h2, h3, h4⟩ := HA.out.2 j B h
      exact ⟨av, fun B' hB => by injection hB with hB; subst hB; exact ⟨ad, h1, h2, h3, h4⟩⟩
  have hlen : As.length = n := HA.out.1
  have HVS := Lib.hid hvs
  clear hvs HA
  refine range_rec (gf := 83) (lb := #[.pointer (some ⟨w.heap.size + 1, 0, none⟩)]) rfl (enters_of Tryz.func83 (by kernel_rfl) rfl) (fun fn R hR => ?_)
  rw [HZZ.out]
  have HL := Lib.hid hR
  clear hR
  refine (back_in_i (N - 1) (w.heap.size + 2 + 1) (w.heap.size + 1) n c A vs (fun r W => WrJ Tryz.prog S (L (k + r)) ex w R 51 60 (.slice A n c) .ready none (wrapS (As.drop r) F) W) hn ?_ ?_ _ ?_).mono ?_
  · intro r W h
    refine ⟨h.sl.cell 0, fun j hj => ?_⟩
    obtain ⟨ad, h1, h2, h3, _⟩ := HVS.out j As[j] (List.getElem?_eq_getElem (by omega))
    exact ⟨ad, h1, (h.below.cell (by rw [add_block]; exact h2)).trans h3⟩
  · intro r W h hr
    refine yield_rec HL.out h.entry rfl ?_
    obtain ⟨gv, hgv, hf⟩ := h.f
    have HW := Lib.hid h
    have HF := Lib.hid hf
    have hWs : w.heap.size + 4 ≤ W.heap.size := h.size
    obtain ⟨adr, h1, h2, h3, har⟩ := HVS.out r As[r] (List.getElem?_eq_getElem (by omega))
    obtain ⟨av, hav⟩ : ∃ av, av = vs r := ⟨_, rfl⟩
    rw [← hav] at har ⊢
    clear h h1 h2 h3 hav
    have HAr := Lib.hid har
    obtain ⟨Kr, fr, cr, rfl, _⟩ := har
    obtain ⟨Kg, fg, cg, rfl, _⟩ := hf
    gi_wp2
    refine ⟨(Below.heap_alloc W _ _ (by omega)).trans HW.out.entry, ?_⟩
    have HQ := Lib.hid (bdy_start HW.out hgv 54 (.func (.func Kr) fr cr))
    generalize (W.alloc (.cells #[.func (.func Kr) fr cr] 54)).putObj (w.heap.size + 2 + 1) (.loop (R .busy none)) = W2 at HQ ⊢
    have q1 : W2.cell? ⟨w.heap.size, 0, none⟩ = some (.func (.func Kg) fg cg) := HQ.out.bf.cell 0
    have q2 : W2.frozen? ⟨w.heap.size, 0, none⟩ = false := HQ.out.bf.frozen 0
    have q3 : ∀ o, (W2.alloc o).cell? ⟨w.heap.size, 0, none⟩ = some (.func (.func Kg) fg cg) := fun o => (HQ.out.bf.alloc o).cell 0
    have q5 : ∀ o, (W2.alloc o).frozen? ⟨w.heap.size, 0, none⟩ = false := fun o => (HQ.out.bf.alloc o).frozen 0
    have q4 : W2.heap.size = W.heap.size + 1 := HQ.out.size
    clear hgv hWs
    gi_wp2
    obtain ⟨g1, g2⟩ := bdy_end (nv := .func (.func 43) #[] #[.pointer (some ⟨W.heap.size, 0, none⟩), .pointer (some ⟨W.heap.size + 1, 0, none⟩)]) (P := Tryz.prog) (S := S) (L' := L (k + r)) (G := As[r] (wrapS (As.drop (r + 1)) F)) hex HQ.out fun w0 kw kw0 hb6 hb7 =>
      wrap1_i S (L (k + r)) (L (k + r + 1)) W.heap.size (W.heap.size + 1) _ _ As[r] (wrapS (As.drop (r + 1)) F) w0 hb6 hb7 (exW ex w.heap.size) (fun g hg => .inl (hrow g hg)) (exW_no hex (by have := HQ.out.old; omega)) (exW_no hex (by have := HQ.out.old; omega)) 
        ((HAr.out.letbe (fun i hi he => he.resolve_right (by omega))).kx (kw0.more fun i _ h => .inl h)) (HF.out.kx kw)
    refine ⟨g1, rfl, ?_⟩
    rw [List.drop_eq_getElem_cons (by omega : r < As.length)]
    exact g2
  · have hz := HZZ.out
    have h1 := heap_alloc_new Z (.deferred (some []))
    have h2 := heap_alloc_new (Z.alloc (.deferred (some []))) (.loop (R .ready none))
    have ez : (Z.alloc (.deferred (some []))).heap.size = w.heap.size + 3 := by simp [hz]
    rw [ez] at h2
    rw [hz] at h1
    have hb : Below w.heap.size w ((Z.alloc (.deferred (some []))).alloc (.loop (R .ready none))) := (BZ.out.alloc BZ.out.size _).alloc (by rw [ez]; omega) _
    refine ⟨hb, (SL.out.alloc _).alloc _, ?_, h2, by simp [hz], _, (BF.out.alloc _).alloc _, ?_⟩
    · exact (Below.heap_alloc _ _ _ (by omega)).trans h1
    · rw [List.drop_of_length_le (by omega)]
      exact (HV.out.letbe fun i hi he => he.resolve_right (by omega)).kx (Kx.below hb)
  · rintro e W ⟨hret, h⟩
    refine ⟨hret, .ready, none, by simp, h.entry, ?_⟩
    obtain ⟨gv, hgv, hf⟩ := h.f
    have hl : w.heap.size + 2 + 1 < W.heap.size := by have := h.size; omega
    have q1 : (W.putObj (w.heap.size + 2 + 1) (.loop (R .exhausted none))).cell? ⟨w.heap.size, 0, none⟩ = some gv := Blk.cell (show Blk _ _ 51 #[gv] from (World.putObj_heap_other (by omega)).trans hgv) 0
    have HW := Lib.hid h
    have HF := Lib.hid hf
    clear hgv hf h
    unfold Behind
    gi_wp2
    have hm : (W.putObj (w.heap.size + 2 + 1) (.loop (R .exhausted none))).heap[w.heap.size + 2]? = some (.deferred (some [])) := (World.putObj_heap_other (by omega)).trans HW.out.mark
    refine ⟨by simp, .inl ⟨_, _, rfl, run_takeDeferred hm, ?_⟩⟩
    refine ⟨_, results_tmp rfl _ _ _, gv, rfl, ?_, ?_⟩
    · have k1 : Kx (exW ex w.heap.size) W (W.putObj (w.heap.size + 2 + 1) (.loop (R .exhausted none))) := Kx.putObj (.inr (by omega)) _ hl
      have k2 : Kx (exW ex w.heap.size) (W.putObj (w.heap.size + 2 + 1) (.loop (R .exhausted none))) ((W.putObj (w.heap.size + 2 + 1) (.loop (R .exhausted none))).putObj (w.heap.size + 2) (.deferred none)) := Kx.putObj (.inr (by omega)) _ (by rw [World.putObj_size]; omega)
      exact (HF.out.kx (k1.trans k2)).letbe fun i _ hi => .inl hi
    · exact (HW.out.below.trans (belowK_b (w := w) (Nat.le_refl _) W _ _ _ (by omega) HW.out.entry rfl rfl)).trans (belowK_b (w := w) (Nat.le_refl _) _ (w.heap.size + 2) _ _ (by omega) hm rfl rfl)
end Go.Proofs.YthokfopeddaiiaaGreatDoor
