/-
  Contracts: functions around calls: chain.Before, After, ends.
-/
import Derived.Test.YthokfopeddaiiaaGreatDoorCal
import Derived.Test.YthokfopeddaiiaaGreatDoorWrc
import Derived.Test.YthokfopeddaiiaaGreatDoorShelf
import Derived.Deep.RegionWith
import Derived.Outline
namespace Go.Proofs.YthokfopeddaiiaaGreatDoor
open Go.RowKit Go.Own Go.Own.Fn Go.Shelf
attribute [local go_sem] Oper.semAt_some
variable {σ : Type}
/-- v turns what is asked, or answered, and no state. -/
def PurC (P : Program) {X Z : Type} (R : World → Value → X → Prop) (R' : World → Value → Z → Prop) (ex : Nat → Prop) (v : Value) (f : X → Z) (w0 : World) : Prop :=
  ∃ (K : Nat) (cap : Array Value), v = .func (.func K) #[] cap ∧ Enters P K ∧ ∀ (w : World) (xv : Value) (x : X), Kx ex w0 w → R w xv x →
    Calls P K (#[xv] ++ cap) w fun e w' => ∃ yv, e = .returned yv ∧ R' w' yv (f x) ∧ Below w.heap.size w w'
theorem PurC.kx {P : Program} {X Z : Type} {R : World → Value → X → Prop} {R' : World → Value → Z → Prop} {ex : Nat → Prop} {v : Value} {f : X → Z} {w w' : World} (h : PurC P R R' ex v f w) (hg : Kx ex w w') : PurC P R R' ex v f w' := by
  obtain ⟨K, cap, e, hE, hc⟩ := h
  exact ⟨K, cap, e, hE, fun w x xv hw => hc w x xv (hg.trans hw)⟩
/-- An answer is stored. -/
def put4 (w : World) (g : Nat) (a b c d : Value) : World := (((w.setCell ⟨g, 0, none⟩ a).setCell ⟨g, 1, none⟩ b).setCell ⟨g, 2, none⟩ c).setCell ⟨g, 3, none⟩ d
theorem put4_blk {w : World} {g : Nat} {t : TypeId} {a b c d a' b' c' d' : Value} (h : Blk w g t #[a', b', c', d']) : Blk (put4 w g a b c d) g t #[a, b, c, d] := by
  have := (((h.put 0 a).put 1 b).put 2 c).put 3 d
  exact this
theorem put4_kt {w : World} {g : Nat} {a b c d a' b' c' d' : Value} (h : Blk w g 39 #[a', b', c', d']) : Kt notAns w (put4 w g a b c d) := by
  have ht : ¬ notAns 39 := fun h => h rfl
  exact (((Kt.put h ht 0 a).trans (Kt.put (h.put 0 a) ht 1 b)).trans (Kt.put ((h.put 0 a).put 1 b) ht 2 c)).trans (Kt.put (((h.put 0 a).put 1 b).put 2 c) ht 3 d)
theorem put4_grown {w w' : World} {row : Option Nat} {g : Nat} {a b c d : Value} (h : w.grownBy w' row) (hg : w.heap.size ≤ g) : w.grownBy (put4 w' g a b c d) row :=
  grown_new (grown_new (grown_new (grown_new h hg _ _) hg _ _) hg _ _) hg _ _
theorem res92 (tmps : Array Value) (w : World) (g : Nat) (a b c d : Value) (ht : tmps[5]? = some (.pointer (some ⟨g, 0, none⟩))) (hb : Blk w g 39 #[a, b, c, d]) :
    (results Tryz.f92 tmps).run Tryz.prog w = .ok (.agg #[a, b, c, d]) w := by
  have c0 : w.cell? ⟨g, 0, none⟩ = some a := hb.cell 0
  have c1 : w.cell? ⟨g, 1, none⟩ = some b := hb.cell 1
  have c2 : w.cell? ⟨g, 2, none⟩ = some c := hb.cell 2
  have c3 : w.cell? ⟨g, 3, none⟩ = some d := hb.cell 3
  simp [results, Tryz.results92, go_sem, ht, c0, c1, c2, c3]
abbrev callB (p hv bv : Value) : Obj := .cells #[p, hv, bv] 26
abbrev ansB0 : Obj := .cells #[.int .i64 0, .string ⟨#[]⟩, .slice none 0 0, .slice none 0 0] 39
/-- Behind a call that is laid down and an answer's place. -/
theorem room2 (w : World) (p hv bv : Value) : Below w.heap.size w ((w.alloc (callB p hv bv)).alloc ansB0) ∧ Blk ((w.alloc (callB p hv bv)).alloc ansB0) w.heap.size 26 #[p, hv, bv] ∧ Blk ((w.alloc (callB p hv bv)).alloc ansB0) (w.heap.size + 1) 39 #[.int .i64 0, .string ⟨#[]⟩, .slice none 0 0, .slice none 0 0] := by
  refine ⟨((Below.refl w.heap.size w).alloc (Nat.le_refl _) _).alloc (by simp) _, (Blk.new _ _ _).alloc _, ?_⟩
  have := Blk.new (w.alloc (callB p hv bv)) 39 #[.int .i64 0, .string ⟨#[]⟩, .slice none 0 0, .slice none 0 0]
  simpa using this
theorem RXk.below {k : Nat} {w w' : World} {v : Value} {x : CallV} (h : RXk k w v x) (hb : Below w.heap.size w w') : RXk k w' v x := (keepers_call (S := (⟨none, fun _ _ => True⟩ : Stt Unit)) (fun _ _ _ _ _ => trivial) k).rx (Kt.below hb) h
theorem RYk.below {k : Nat} {w w' : World} {v : Value} {x : AnsV} (h : RYk k w v x) (hb : Below w.heap.size w w') : RYk k w' v x := (keepers_call (S := (⟨none, fun _ _ => True⟩ : Stt Unit)) (fun _ _ _ _ _ => trivial) k).ry (Kt.below hb) h
theorem RYk.less {k : Nat} {w : World} {v : Value} {x : AnsV} (h : RYk (k + 1) w v x) : RYk k w v x := by
  obtain ⟨hv, bv, e, h1, h2, h3, h4⟩ := h
  exact ⟨hv, bv, e, h1, h2, by omega, h4⟩
theorem RXk.more {k : Nat} {w : World} {v : Value} {x : CallV} (h : RXk k w v x) : RXk (k + 1) w v x := by
  obtain ⟨hv, bv, e, h1, h2, h3, h4⟩ := h
  exact ⟨hv, bv, e, h1, h2, by omega, h4⟩
set_option maxRecDepth 100000 in
theorem before1_c (S : Stt σ) (hS : KeepsSt S) (k : Nat) (ex : Nat → Prop) (b : Nat) (gv : Value) (f : CallV → CallV) (w0 : World) (hrl : ∀ g, S.row = some g → g < w0.heap.size) (hb : Blk w0 b 94 #[gv]) (hx : ¬ ex b) (hg : PurC Tryz.prog (RXk k) (RXk (k + 1)) ex gv f w0) :
    Arnd Tryz.prog S (callL k) (callL (k + 1)) ex (.func (.func 92) #[] #[.pointer (some ⟨b, 0, none⟩)]) (fun F x s => F (f x) s) w0 := by
  refine ⟨92, #[], #[.pointer (some ⟨b, 0, none⟩)], rfl, enters_of Tryz.func92 (by kernel_rfl) rfl, fun w s xv x nv F exF hrF hw hF hs hxv => ?_⟩
  show Calls Tryz.prog 92 #[xv, nv, .pointer (some ⟨b, 0, none⟩)] w _
  have HSS := Lib.hid (steady_of_keeps hS)
  have HX := Lib.hid hxv
  have HBb := Lib.hid (Blk.kx hb hw hx)
  have HF := Lib.hid hF
  have HS := Lib.hid hs
  have HK := Lib.hid hw
  have hrl2 : ∀ g, S.row = some g → g < w.heap.size := fun g h => Nat.lt_of_lt_of_le (hrl g h) hw.size
  have HRL := Lib.hid hrl2
  obtain ⟨hv, bv, rfl, h1, h2, _⟩ := hxv
  obtain ⟨A1, c1, rfl, _⟩ := h1.form
  obtain ⟨A2, c2, rfl⟩ := owSlc h2
  obtain ⟨n1, hn1⟩ : ∃ n, x.hs.length = n := ⟨_, rfl⟩
  obtain ⟨n2, hn2⟩ : ∃ n, x.body.length = n := ⟨_, rfl⟩
  obtain ⟨xp, hxp⟩ : ∃ p, x.path = p := ⟨_, rfl⟩
  rw [hn1, hn2, hxp] at HX ⊢
  obtain ⟨K, first, cap, rfl, hE, hc⟩ := hF
  obtain ⟨K2, cap2, rfl, hE2, hc2⟩ := hg
  have H1 := Lib.hid hc2
  have H2 := Lib.hid hc
  have hE : ∀ args w, (callFunc K args).run Tryz.prog w = .ok (.enter K args) w := hE
  have hE2 : ∀ args w, (callFunc K2 args).run Tryz.prog w = .ok (.enter K2 args) w := hE2
  have l6 := HBb.out.lt
  have c6 : w.cell? ⟨b, 0, none⟩ = some (.func (.func K2) #[] cap2) := HBb.out.cell 0
  clear hc hc2 hs hw hb hx h1 h2 hn1 hn2 hxp hrl2 hrl
  go_enter Tryz.func92, Tryz.ntmps92
  go_wp2_with fail
  obtain ⟨r1, r2, r3⟩ := room2 w (.string xp) (.slice A1 n1 c1) (.slice A2 n2 c2)
  have HW := Lib.hid r1
  have HA := Lib.hid r3
  clear r1 r2 r3
  generalize (w.alloc _).alloc _ = W at HW HA ⊢
  refine (H1.out W _ x (HK.out.trans (Kx.below HW.out)) (HX.out.below HW.out)).mono ?_
  rintro e w1 ⟨xv2, rfl, g1, g2⟩
  have HX2 := Lib.hid g1
  have HB1 := Lib.hid (HW.out.trans (g2.mono HW.out.size))
  have HA1 := Lib.hid (HA.out.below g2 HA.out.lt)
  obtain ⟨p3, A3, n3, c3, A4, n4, c4, rfl⟩ := (shaped_call (k + 1)).x g1
  clear g1 g2 HW HA HX
  go_wp2_with fail
  refine (H2.out w1 s _ (f x) (Kx.below HB1.out) (HSS.out _ _ _ HB1.out HS.out) HX2.out).mono ?_
  rintro e w2 ⟨yv, rfl, g1, g2, g3⟩
  have HY := Lib.hid g1
  have HG2 := Lib.hid (grown_trans (grown_of_below HB1.out _) g3)
  have HS2 := Lib.hid g2
  have HA2 := Lib.hid (HA1.out.grown g3 (fun e => by have := HRL.out _ e.symm; omega))
  obtain ⟨q, t, A5, n5, c5, A6, n6, c6, rfl⟩ := (shaped_call (k + 1)).y g1
  clear g1 g2 g3 HA1 HX2 HB1
  have a0 : w2.cell? ⟨w.heap.size + 1, 0, none⟩ = some (.int .i64 0) := HA2.out.cell 0
  have a1 : w2.cell? ⟨w.heap.size + 1, 1, none⟩ = some (.string ⟨#[]⟩) := HA2.out.cell 1
  have a2 : w2.cell? ⟨w.heap.size + 1, 2, none⟩ = some (.slice none 0 0) := HA2.out.cell 2
  have a3 : w2.cell? ⟨w.heap.size + 1, 3, none⟩ = some (.slice none 0 0) := HA2.out.cell 3
  have z0 := HA2.out.frozen 0
  have z1 := HA2.out.frozen 1
  have z2 := HA2.out.frozen 2
  have z3 := HA2.out.frozen 3
  go_wp2
  have hk := put4_kt (a := .int .i64 q) (b := .string t) (c := .slice A5 n5 c5) (d := .slice A6 n6 c6) HA2.out
  refine bodyPost_ret (res92 _ _ (w.heap.size + 1) _ _ _ _ rfl (put4_blk HA2.out)) rfl ⟨_, rfl, RYk.less ((keepers_call hS (k + 1)).ry hk HY.out), hS _ _ _ hk HS2.out, put4_grown HG2.out (by omega)⟩
theorem res98 (tmps : Array Value) (w : World) (g : Nat) (a b c d : Value) (ht : tmps[5]? = some (.pointer (some ⟨g, 0, none⟩))) (hb : Blk w g 39 #[a, b, c, d]) :
    (results Tryz.f98 tmps).run Tryz.prog w = .ok (.agg #[a, b, c, d]) w := by
  have c0 : w.cell? ⟨g, 0, none⟩ = some a := hb.cell 0
  have c1 : w.cell? ⟨g, 1, none⟩ = some b := hb.cell 1
  have c2 : w.cell? ⟨g, 2, none⟩ = some c := hb.cell 2
  have c3 : w.cell? ⟨g, 3, none⟩ = some d := hb.cell 3
  simp [results, Tryz.results98, go_sem, ht, c0, c1, c2, c3]
/-- What is known of the answer's place. -/
theorem ans_cells {w : World} {g : Nat} {a b c d : Value} (h : Blk w g 39 #[a, b, c, d]) : w.cell? ⟨g, 0, none⟩ = some a ∧ w.cell? ⟨g, 1, none⟩ = some b ∧ w.cell? ⟨g, 2, none⟩ = some c ∧ w.cell? ⟨g, 3, none⟩ = some d ∧
    w.frozen? ⟨g, 0, none⟩ = false ∧ w.frozen? ⟨g, 1, none⟩ = false ∧ w.frozen? ⟨g, 2, none⟩ = false ∧ w.frozen? ⟨g, 3, none⟩ = false :=
  ⟨h.cell 0, h.cell 1, h.cell 2, h.cell 3, h.frozen 0, h.frozen 1, h.frozen 2, h.frozen 3⟩
set_option maxRecDepth 100000 in
set_option maxHeartbeats 2000000 in
theorem after1_c (S : Stt σ) (hS : KeepsSt S) (k : Nat) (ex : Nat → Prop) (b : Nat) (gv : Value) (f : AnsV → AnsV) (w0 : World) (hrow : ∀ g, S.row = some g → ex g) (hrl : ∀ g, S.row = some g → g < w0.heap.size) (hb : Blk w0 b 104 #[gv]) (hx : ¬ ex b) (hg : PurC Tryz.prog (RYk (k + 1)) (RYk k) ex gv f w0) :
    Arnd Tryz.prog S (callL k) (callL (k + 1)) ex (.func (.func 98) #[] #[.pointer (some ⟨b, 0, none⟩)]) (fun F x s => (f (F x s).1, (F x s).2)) w0 := by
  refine ⟨98, #[], #[.pointer (some ⟨b, 0, none⟩)], rfl, enters_of Tryz.func98 (by kernel_rfl) rfl, fun w s xv x nv F exF hrF hw hF hs hxv => ?_⟩
  show Calls Tryz.prog 98 #[xv, nv, .pointer (some ⟨b, 0, none⟩)] w _
  have HSS := Lib.hid (steady_of_keeps hS)
  have HX := Lib.hid hxv
  have HBb := Lib.hid (Blk.kx hb hw hx)
  have HF := Lib.hid hF
  have HS := Lib.hid hs
  have HK := Lib.hid hw
  have hrl2 : ∀ g, S.row = some g → g < w.heap.size := fun g h => Nat.lt_of_lt_of_le (hrl g h) hw.size
  have HRL := Lib.hid hrl2
  have HRW := Lib.hid hrow
  have hrb : some b ≠ S.row := fun e => hx (hrow _ e.symm)
  have HRB := Lib.hid hrb
  obtain ⟨hv, bv, rfl, h1, h2, _⟩ := hxv
  obtain ⟨A1, c1, rfl, _⟩ := h1.form
  obtain ⟨A2, c2, rfl⟩ := owSlc h2
  obtain ⟨n1, hn1⟩ : ∃ n, x.hs.length = n := ⟨_, rfl⟩
  obtain ⟨n2, hn2⟩ : ∃ n, x.body.length = n := ⟨_, rfl⟩
  obtain ⟨xp, hxp⟩ : ∃ p, x.path = p := ⟨_, rfl⟩
  rw [hn1, hn2, hxp] at HX ⊢
  obtain ⟨K, first, cap, rfl, hE, hc⟩ := hF
  obtain ⟨K2, cap2, rfl, hE2, hc2⟩ := hg
  have H1 := Lib.hid hc2
  have H2 := Lib.hid hc
  have hE : ∀ args w, (callFunc K args).run Tryz.prog w = .ok (.enter K args) w := hE
  have hE2 : ∀ args w, (callFunc K2 args).run Tryz.prog w = .ok (.enter K2 args) w := hE2
  clear hc hc2 hs hw hb hx h1 h2 hn1 hn2 hxp hrl2 hrl hrow hrb
  go_enter Tryz.func98, Tryz.ntmps98
  go_wp2_with fail
  obtain ⟨r1, r2, r3⟩ := room2 w (.string xp) (.slice A1 n1 c1) (.slice A2 n2 c2)
  have HW : Hid (Below w.heap.size w ((w.alloc (callB (.string xp) (.slice A1 n1 c1) (.slice A2 n2 c2))).alloc ansB0).drew) := Lib.hid r1.drew
  have HA := Lib.hid r3
  have HC := Lib.hid r2
  have HB2 := Lib.hid (HBb.out.below r1 HBb.out.lt)
  clear r1 r2 r3
  generalize (w.alloc _).alloc _ = W at HW HA HC HB2 ⊢
  have q0 : W.cell? ⟨w.heap.size, 0, none⟩ = some (.string xp) := HC.out.cell 0
  have q1 : W.cell? ⟨w.heap.size, 1, none⟩ = some (.slice A1 n1 c1) := HC.out.cell 1
  have q2 : W.cell? ⟨w.heap.size, 2, none⟩ = some (.slice A2 n2 c2) := HC.out.cell 2
  have q3 : W.cell? ⟨b, 0, none⟩ = some (.func (.func K2) #[] cap2) := HB2.out.cell 0
  have CN : Hid (Calls Tryz.prog K (first.push (.agg #[.string xp, .slice A1 n1 c1, .slice A2 n2 c2]) ++ cap) W.drew fun e w2 => ∃ q t A5 n5 c5 A6 n6 c6, e = .returned (.agg #[.int .i64 q, .string t, .slice A5 n5 c5, .slice A6 n6 c6]) ∧
      Hid (RYk (k + 1) w2 (.agg #[.int .i64 q, .string t, .slice A5 n5 c5, .slice A6 n6 c6]) (F x s).1 ∧ S.St (F x s).2 w2 ∧ w.grownBy w2 S.row ∧ Blk w2 (w.heap.size + 1) 39 #[.int .i64 0, .string ⟨#[]⟩, .slice none 0 0, .slice none 0 0]) ∧ w2.cell? ⟨b, 0, none⟩ = some (.func (.func K2) #[] cap2)) := Lib.hid (by
    refine (H2.out W.drew s _ x (Kx.below HW.out) (HSS.out _ _ _ HW.out HS.out) (HX.out.below HW.out).more).mono ?_
    rintro e w2 ⟨yv, rfl, g1, g2, g3⟩
    have HG2 := grown_trans (grown_of_below HW.out _) g3
    obtain ⟨q, t, A5, n5, c5, A6, n6, c6, rfl⟩ := (shaped_call (k + 1)).y g1
    exact ⟨q, t, A5, n5, c5, A6, n6, c6, rfl, Lib.hid ⟨g1, g2, HG2, Blk.grown (w := W.drew) HA.out g3 (fun e => by have := HRL.out _ e.symm; omega)⟩, (HBb.out.grown HG2 HRB.out).cell 0⟩)
  have CG : Hid (∀ w2 yv, Hid (RYk (k + 1) w2 yv (F x s).1 ∧ S.St (F x s).2 w2 ∧ w.grownBy w2 S.row ∧ Blk w2 (w.heap.size + 1) 39 #[.int .i64 0, .string ⟨#[]⟩, .slice none 0 0, .slice none 0 0]) →
      Calls Tryz.prog K2 (#[yv] ++ cap2) w2 fun e w3 => ∃ q t A5 n5 c5 A6 n6 c6, e = .returned (.agg #[.int .i64 q, .string t, .slice A5 n5 c5, .slice A6 n6 c6]) ∧
      Hid (RYk k w3 (.agg #[.int .i64 q, .string t, .slice A5 n5 c5, .slice A6 n6 c6]) (f (F x s).1) ∧ S.St (F x s).2 w3 ∧ w.grownBy w3 S.row ∧ Blk w3 (w.heap.size + 1) 39 #[.int .i64 0, .string ⟨#[]⟩, .slice none 0 0, .slice none 0 0])) := Lib.hid (fun w2 yv hh => by
    obtain ⟨g1, g2, g3, g4⟩ := hh.out
    refine (H1.out w2 yv (F x s).1 (HK.out.trans (Kx.grown g3 HRW.out)) g1).mono ?_
    rintro e w3 ⟨yv2, rfl, g5, g6⟩
    obtain ⟨q, t, A5, n5, c5, A6, n6, c6, rfl⟩ := (shaped_call k).y g5
    exact ⟨q, t, A5, n5, c5, A6, n6, c6, rfl, Lib.hid ⟨g5, HSS.out _ _ _ g6 g2, grown_trans g3 (grown_of_below g6 _), g4.below g6 g4.lt⟩⟩)
  clear HA HC HB2 HX HF
  go_region_with (first
    | (refine CN.out.mono ?_; rintro e w2 ⟨q, t, A5, n5, c5, A6, n6, c6, rfl, HH, q4⟩; clear q3)
    | (refine (CG.out _ _ HH).mono ?_; rintro e w3 ⟨q', t', A7, n7, c7, A8, n8, c8, rfl, HH3⟩; obtain ⟨z0, z1, z2, z3, y0, y1, y2, y3⟩ := ans_cells HH3.out.2.2.2))
  all_goals
    go_wp2
    have hk := put4_kt (a := .int .i64 q') (b := .string t') (c := .slice A7 n7 c7) (d := .slice A8 n8 c8) HH3.out.2.2.2
    refine bodyPost_ret (res98 _ _ (w.heap.size + 1) _ _ _ _ rfl (put4_blk HH3.out.2.2.2)) rfl ⟨_, rfl, (keepers_call hS k).ry hk HH3.out.1, hS _ _ _ hk HH3.out.2.1, put4_grown HH3.out.2.2.1 (by omega)⟩
theorem res95 (tmps : Array Value) (w : World) (g : Nat) (a b c d : Value) (ht : tmps[7]? = some (.pointer (some ⟨g, 0, none⟩))) (hb : Blk w g 39 #[a, b, c, d]) :
    (results Tryz.f95 tmps).run Tryz.prog w = .ok (.agg #[a, b, c, d]) w := by
  have c0 : w.cell? ⟨g, 0, none⟩ = some a := hb.cell 0
  have c1 : w.cell? ⟨g, 1, none⟩ = some b := hb.cell 1
  have c2 : w.cell? ⟨g, 2, none⟩ = some c := hb.cell 2
  have c3 : w.cell? ⟨g, 3, none⟩ = some d := hb.cell 3
  simp [results, Tryz.results95, go_sem, ht, c0, c1, c2, c3]
/-- What is known of a rule's place. -/
theorem rule_cells {w : World} {g : Nat} {r : RuleV} (h : Blk w g 46 r.cells) : w.cell? ⟨g, 0, none⟩ = some (.string r.path) ∧ w.cell? ⟨g, 1, none⟩ = some (.string r.name) ∧ w.cell? ⟨g, 2, none⟩ = some (.string r.value) ∧ w.cell? ⟨g, 3, none⟩ = some (.int .i64 r.kind) ∧
    w.cell? ⟨g, 4, none⟩ = some (.int .i64 r.code) ∧ w.cell? ⟨g, 5, none⟩ = some (.int .i64 r.n) :=
  ⟨h.cell 0, h.cell 1, h.cell 2, h.cell 3, h.cell 4, h.cell 5⟩
/-- A question about a rule and a call. -/
def IsQ (K k : Nat) (r : RuleV) (f : CallV → Bool) : Prop := ∀ (w : World) (xv : Value) (x : CallV), RXk k w xv x → Calls Tryz.prog K #[.agg r.cells, xv] w fun e w' => e = .returned (.bool (f x)) ∧ Below w.heap.size w w'
def itoa (n : Nat) : ByteArray := ⟨(Lib.decDigits n).toArray⟩
/-- What ends some calls. -/
def endF (r : RuleV) (place : Nat) (f : CallV → Bool) (F : CallV → σ → AnsV × σ) (x : CallV) (s : σ) : AnsV × σ := if f x then (⟨r.code, itoa place, [], []⟩, s) else F x s
set_option maxRecDepth 100000 in
set_option maxHeartbeats 2000000 in
theorem ends1_c (S : Stt σ) (hS : KeepsSt S) (k : Nat) (ex : Nat → Prop) (bi br bp KK place : Nat) (r : RuleV) (f : CallV → Bool) (w0 : World) (hrl : ∀ g, S.row = some g → g < w0.heap.size) (hk1 : k ≤ 1000) (hp : place < 100) (hi : Blk w0 bi 99 #[.func (.func KK) #[] #[]]) (hr : Blk w0 br 46 r.cells) (hpl : Blk w0 bp 3 #[.int .i64 (place : Int)]) (ni : ¬ ex bi) (nr : ¬ ex br) (np : ¬ ex bp)
    (hE : Enters Tryz.prog KK) (hq : IsQ KK k r f) :
    Arnd Tryz.prog S (callL k) (callL (k + 1)) ex (.func (.func 95) #[] #[.pointer (some ⟨bi, 0, none⟩), .pointer (some ⟨br, 0, none⟩), .pointer (some ⟨bp, 0, none⟩)]) (endF r place f) w0 := by
  refine ⟨95, #[], #[.pointer (some ⟨bi, 0, none⟩), .pointer (some ⟨br, 0, none⟩), .pointer (some ⟨bp, 0, none⟩)], rfl, enters_of Tryz.func95 (by kernel_rfl) rfl, fun w s xv x nv F exF hrF hw hF hs hxv => ?_⟩
  show Calls Tryz.prog 95 #[xv, nv, .pointer (some ⟨bi, 0, none⟩), .pointer (some ⟨br, 0, none⟩), .pointer (some ⟨bp, 0, none⟩)] w _
  have HSS := Lib.hid (steady_of_keeps hS)
  have HX := Lib.hid hxv
  have HI := Lib.hid (Blk.kx hi hw ni)
  have HRr := Lib.hid (Blk.kx hr hw nr)
  have HP := Lib.hid (Blk.kx hpl hw np)
  have HS := Lib.hid hs
  have hrl2 : ∀ g, S.row = some g → g < w.heap.size := fun g h => Nat.lt_of_lt_of_le (hrl g h) hw.size
  have HRL := Lib.hid hrl2
  have HQ := Lib.hid hq
  have HK1 := Lib.hid hk1
  have HPl := Lib.hid hp
  clear hk1 hp
  obtain ⟨hv, bv, rfl, h1, h2, _⟩ := hxv
  obtain ⟨A1, c1, rfl, _⟩ := h1.form
  obtain ⟨A2, c2, rfl⟩ := owSlc h2
  obtain ⟨n1, hn1⟩ : ∃ n, x.hs.length = n := ⟨_, rfl⟩
  obtain ⟨n2, hn2⟩ : ∃ n, x.body.length = n := ⟨_, rfl⟩
  obtain ⟨xp, hxp⟩ : ∃ p, x.path = p := ⟨_, rfl⟩
  rw [hn1, hn2, hxp] at HX ⊢
  obtain ⟨K, first, cap, rfl, hE2, hc⟩ := hF
  have H2 := Lib.hid hc
  have hE : ∀ args w, (callFunc KK args).run Tryz.prog w = .ok (.enter KK args) w := hE
  have hE2 : ∀ args w, (callFunc K args).run Tryz.prog w = .ok (.enter K args) w := hE2
  have l1 := HI.out.lt
  have l2 := HRr.out.lt
  have l3 := HP.out.lt
  have ci : w.cell? ⟨bi, 0, none⟩ = some (.func (.func KK) #[] #[]) := HI.out.cell 0
  have cp : w.cell? ⟨bp, 0, none⟩ = some (.int .i64 (place : Int)) := HP.out.cell 0
  obtain ⟨r0, r1, r2, r3, r4, r5⟩ := rule_cells HRr.out
  clear hc hs hw hi hr hpl ni nr np h1 h2 hn1 hn2 hxp hrl2 hrl hq
  go_enter Tryz.func95, Tryz.ntmps95
  go_wp2_with fail
  obtain ⟨g1, g2, g3⟩ := room2 w (.string xp) (.slice A1 n1 c1) (.slice A2 n2 c2)
  have HW := Lib.hid g1
  have HA := Lib.hid g3
  have HC := Lib.hid g2
  clear g1 g2 g3
  generalize (w.alloc _).alloc _ = W at HW HA HC ⊢
  refine (HQ.out W _ x (HX.out.below HW.out)).mono ?_
  rintro e w1 ⟨rfl, g1⟩
  have HB1 := Lib.hid (HW.out.trans (g1.mono HW.out.size))
  have HA1 := Lib.hid (HA.out.below g1 HA.out.lt)
  have HC1 := Lib.hid (HC.out.below g1 HC.out.lt)
  have HR1 := Lib.hid (HRr.out.below HB1.out HRr.out.lt)
  have d0 : w1.cell? ⟨bp, 0, none⟩ = some (.int .i64 (place : Int)) := (HP.out.below HB1.out HP.out.lt).cell 0
  have d4 : w1.cell? ⟨br, 4, none⟩ = some (.int .i64 r.code) := (rule_cells HR1.out).2.2.2.2.1
  have d5 : w1.cell? ⟨w.heap.size, 0, none⟩ = some (.string xp) := HC1.out.cell 0
  have d6 : w1.cell? ⟨w.heap.size, 1, none⟩ = some (.slice A1 n1 c1) := HC1.out.cell 1
  have d7 : w1.cell? ⟨w.heap.size, 2, none⟩ = some (.slice A2 n2 c2) := HC1.out.cell 2
  obtain ⟨z0, z1, z2, z3, y0, y1, y2, y3⟩ := ans_cells HA1.out
  clear g1 ci cp r0 r1 r2 r3 r4 r5 HI HRr HP HC HA
  rcases hf : f x with _ | _
  · have HFx := Lib.hid hf
    clear hf
    go_wp2_with fail
    refine (H2.out w1 s _ x (Kx.below HB1.out) (HSS.out _ _ _ HB1.out HS.out) (HX.out.below HB1.out).more).mono ?_
    rintro e w2 ⟨yv, rfl, g1, g2, g3⟩
    have HY := Lib.hid g1
    have HG2 := Lib.hid (grown_trans (grown_of_below HB1.out _) g3)
    have HS2 := Lib.hid g2
    have HA2 := Lib.hid (HA1.out.grown g3 (fun e => by have := HRL.out _ e.symm; omega))
    obtain ⟨q, t, A5, n5, c5, A6, n6, c6, rfl⟩ := (shaped_call (k + 1)).y g1
    clear g1 g2 g3 z0 z1 z2 z3 y0 y1 y2 y3
    obtain ⟨z0, z1, z2, z3, y0, y1, y2, y3⟩ := ans_cells HA2.out
    go_wp2
    have hk := put4_kt (a := .int .i64 q) (b := .string t) (c := .slice A5 n5 c5) (d := .slice A6 n6 c6) HA2.out
    refine bodyPost_ret (res95 _ _ (w.heap.size + 1) _ _ _ _ rfl (put4_blk HA2.out)) rfl ⟨_, rfl, ?_, ?_, put4_grown HG2.out (by omega)⟩
    · unfold endF; rw [HFx.out]; exact RYk.less ((keepers_call hS (k + 1)).ry hk HY.out)
    · unfold endF; rw [HFx.out]; exact hS _ _ _ hk HS2.out
  · have HFx := Lib.hid hf
    have HIt : Hid (∀ W, Calls Tryz.prog 96 #[.int .i64 (place : Int)] W fun e w' => e = .returned (.string (itoa place)) ∧ w' = W) := Lib.hid fun W => Tryz.strconv_Itoa_small place HPl.out W
    clear hf
    go_wp2_with fail
    go_region_with ((refine (HIt.out _).mono ?_; rintro e w2 ⟨rfl, rfl⟩))
    all_goals
      go_wp2
      have hk := put4_kt (a := .int .i64 r.code) (b := .string (itoa place)) (c := .slice none 0 0) (d := .slice none 0 0) HA1.out
      have hg := put4_grown (g := w.heap.size + 1) (a := .int .i64 r.code) (b := .string (itoa place)) (c := .slice none 0 0) (d := .slice none 0 0) (grown_of_below HB1.out S.row) (by omega)
      have hdr : Below (put4 w1 (w.heap.size + 1) (.int .i64 r.code) (.string (itoa place)) (.slice none 0 0) (.slice none 0 0)).heap.size (put4 w1 (w.heap.size + 1) (.int .i64 r.code) (.string (itoa place)) (.slice none 0 0) (.slice none 0 0)) (put4 w1 (w.heap.size + 1) (.int .i64 r.code) (.string (itoa place)) (.slice none 0 0) (.slice none 0 0)).drew := (Below.refl _ _).drew
      refine bodyPost_ret (res95 _ _ (w.heap.size + 1) _ _ _ _ rfl (Blk.below (put4_blk HA1.out) hdr (put4_blk HA1.out).lt)) rfl ⟨_, rfl, ?_, ?_, grown_trans hg (grown_of_below hdr _)⟩
      · unfold endF; rw [HFx.out]; exact ⟨_, _, rfl, Hw.nil _ _, ⟨rfl, .inl ⟨rfl, rfl⟩⟩, by simpa using HK1.out, by simp⟩
      · unfold endF; rw [HFx.out]; exact HSS.out _ _ _ hdr (hS _ _ _ hk (HSS.out _ _ _ HB1.out HS.out))
end Go.Proofs.YthokfopeddaiiaaGreatDoor
