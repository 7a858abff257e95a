/-
  Contracts: the kind Remove around a call.
-/
import Derived.Test.YthokfopeddaiiaaGreatDoorGd
namespace Go.Proofs.YthokfopeddaiiaaGreatDoor
open Go.RowKit Go.Own Go.Own.Fn Go.Shelf
attribute [local go_sem] Oper.semAt_some
variable {σ : Type}
theorem res61 (tmps : Array Value) (w : World) (g : Nat) (a b c : Value) (ht : tmps[3]? = some (.pointer (some ⟨g, 0, none⟩))) (hb : Blk w g 26 #[a, b, c]) :
    (results Tryz.f61 tmps).run Tryz.prog w = .ok (.agg #[a, b, c]) w := by
  have c0 : w.cell? ⟨g, 0, none⟩ = some a := hb.cell 0
  have c1 : w.cell? ⟨g, 1, none⟩ = some b := hb.cell 1
  have c2 : w.cell? ⟨g, 2, none⟩ = some c := hb.cell 2
  simp [results, Tryz.results61, go_sem, ht, c0, c1, c2]
set_option maxRecDepth 100000 in
set_option maxHeartbeats 2000000 in
theorem pur61 (k : Nat) (ex : Nat → Prop) (br : Nat) (r : RuleV) (w0 : World) (hr : Blk w0 br 46 r.cells) (nx : ¬ ex br) (hk1 : k ≤ 800) :
    PurC Tryz.prog (RXk k) (RXk (k + 1)) ex (.func (.func 61) #[] #[.pointer (some ⟨br, 0, none⟩)]) (remC r) w0 := by
  refine ⟨61, #[.pointer (some ⟨br, 0, none⟩)], rfl, enters_of Tryz.func61 (by kernel_rfl) rfl, fun w xv x hw hxv => ?_⟩
  show Calls Tryz.prog 61 #[xv, .pointer (some ⟨br, 0, none⟩)] w _
  have HRr := Lib.hid (Blk.kx hr hw nx)
  obtain ⟨hv, bv, rfl, h1, h2, h3, h4⟩ := hxv
  have hlen : x.hs.length ≤ 10000 := by omega
  obtain ⟨A1, c1, rfl, _⟩ := h1.form
  obtain ⟨A2, c2, rfl⟩ := owSlc h2
  have HX := Lib.hid (And.intro h1 (And.intro h2 (And.intro h3 (And.intro h4 hlen))))
  obtain ⟨n1, hn1⟩ : ∃ n, x.hs.length = n := ⟨_, rfl⟩
  obtain ⟨n2, hn2⟩ : ∃ n, x.body.length = n := ⟨_, rfl⟩
  obtain ⟨xp, hxp⟩ : ∃ p, x.path = p := ⟨_, rfl⟩
  rw [hn1, hn2] at HX ⊢
  rw [hxp]
  have HXp := Lib.hid hxp
  clear hxp
  have HN := Lib.hid (And.intro hn1 hn2)
  have l2 := HRr.out.lt
  obtain ⟨W, hW⟩ : ∃ W, (w.alloc (.cells #[.string xp, .slice A1 n1 c1, .slice A2 n2 c2] 26)).alloc (.cells #[.string ⟨#[]⟩, .slice none 0 0, .slice none 0 0] 26) = W := ⟨_, rfl⟩
  have hbw : Below w.heap.size w W := hW ▸ ((Below.refl _ _).alloc (Nat.le_refl _) _).alloc (by simp) _
  have hbox : Blk W w.heap.size 26 #[.string xp, .slice A1 n1 c1, .slice A2 n2 c2] := hW ▸ (Blk.new _ _ _).alloc _
  have hres : Blk W (w.heap.size + 1) 26 #[.string ⟨#[]⟩, .slice none 0 0, .slice none 0 0] := by
    have := Blk.new (w.alloc (.cells #[.string xp, .slice A1 n1 c1, .slice A2 n2 c2] 26)) 26 #[.string ⟨#[]⟩, .slice none 0 0, .slice none 0 0]
    rw [hW] at this
    simpa using this
  have hsz := hbw.size
  have hsz2 : w.heap.size + 2 ≤ W.heap.size := by rw [← hW]; simp
  have CL : Hid (Calls Tryz.prog 57 #[.slice A1 n1 c1] W fun e w1 => ∃ A c, e = .returned (.slice A n1 c) ∧ Hid (Hw w1 W.heap.size (.slice A n1 c) x.hs ∧ Below W.heap.size W w1)) := Lib.hid (by
    refine (clone_h _ x.hs W (by have := HX.out.2.2.2.2; omega) (HX.out.1.below hbw)).mono ?_
    rintro e w1 ⟨v, rfl, g1, g2⟩
    obtain ⟨A, c, rfl, _⟩ := g1.form
    rw [hn1] at g1 ⊢
    exact ⟨A, c, rfl, Lib.hid ⟨g1, g2⟩⟩)
  have q1 : W.cell? ⟨w.heap.size, 1, none⟩ = some (.slice A1 n1 c1) := hbox.cell 1
  have HB := Lib.hid (And.intro hbw (And.intro hbox hres))
  have HSZ : Hid (w.heap.size + 1 < W.heap.size ∧ br < W.heap.size) := Lib.hid (by omega)
  clear h1 h2 h3 h4 hlen hn1 hn2 hr nx hw hbw hbox hres hsz hk1
  go_enter Tryz.func61, Tryz.ntmps61
  go_wp2_with fail
  refine CL.out.mono ?_
  rintro e w1 ⟨A, c, rfl, H1⟩
  clear CL q1
  go_wp2_with fail
  refine (deleteFn_any br r W.heap.size (.slice A n1 c) x.hs w1 (by have := HX.out.2.2.2.2; have := HN.out.1; omega) H1.out.1 H1.out.2.size ((HRr.out.below HB.out.1 l2).below H1.out.2 HSZ.out.2) HSZ.out.2).mono ?_
  rintro e w3 ⟨v3, rfl, hw3, g3⟩
  obtain ⟨A3, c3, rfl, _⟩ := hw3.form
  obtain ⟨n3, hn3⟩ : ∃ n, (keepH r.name x.hs).length = n := ⟨_, rfl⟩
  rw [hn3] at hw3 ⊢
  have HN3 := Lib.hid hn3
  have HW3 := Lib.hid hw3
  have K3 := H1.out.2.trans g3
  have B4 := (HB.out.2.1.below K3 (Nat.lt_of_succ_lt HSZ.out.1)).put 1 (.slice A3 n3 c3)
  have R4 := (HB.out.2.2.below K3 HSZ.out.1).far (p := ⟨w.heap.size, 1, none⟩) (by simp) (.slice A3 n3 c3)
  have H4 : Hw (w3.setCell ⟨w.heap.size, 1, none⟩ (.slice A3 n3 c3)) W.heap.size (.slice A3 n3 c3) (keepH r.name x.hs) := by
    refine HW3.out.grown (grown_setCell (World.grownBy.refl w3 (some w.heap.size)) 1 _) ?_
    rcases ho : (Value.slice A3 n3 c3).ownBlock with _ | b
    · exact .inl rfl
    · refine .inr fun e => ?_
      have := (HW3.out.lt b ho).1
      injection e with e
      have := HSZ.out.1
      omega
  have W4b : Below w.heap.size w (w3.setCell ⟨w.heap.size, 1, none⟩ (.slice A3 n3 c3)) := (HB.out.1.trans (K3.mono HB.out.1.size)).setCell (Nat.le_refl _) _
  have HA4 := Lib.hid (And.intro R4 (And.intro H4 W4b))
  obtain ⟨z0, z1, z2, z3, z4, z5⟩ := call_cells (HB.out.2.1.below K3 (Nat.lt_of_succ_lt HSZ.out.1))
  obtain ⟨e0, e1, e2, j0, j1, j2⟩ := call_cells B4
  obtain ⟨f0, f1, f2, m0, m1, m2⟩ := call_cells R4
  have hs4 : w.heap.size + 1 < (w3.setCell ⟨w.heap.size, 1, none⟩ (.slice A3 n3 c3)).heap.size := R4.lt
  clear B4 R4 H4 W4b K3 g3 hw3 hn3
  go_upto_region 2 with fail
  clear z0 z1 z2 z3 z4 z5
  generalize w3.setCell ⟨w.heap.size, 1, none⟩ (.slice A3 n3 c3) = W4 at *
  go_wp2
  refine bodyPost_ret (res61 _ _ (w.heap.size + 1) _ _ _ rfl (put3_blk HA4.out.1)) rfl ⟨_, rfl, ?_, put3_bel HA4.out.2.2⟩
  refine ⟨.slice A3 n3 c3, .slice A2 n2 c2, by rw [← HXp.out]; rfl, ?_, ?_, ?_, ?_⟩
  · refine (HA4.out.2.1.grown put3_gr ?_).base (Nat.zero_le _)
    rcases ho : (Value.slice A3 n3 c3).ownBlock with _ | b
    · exact .inl rfl
    · refine .inr fun e => ?_
      have := (HA4.out.2.1.lt b ho).1
      injection e with e
      have := HSZ.out.1
      omega
  · show Ow _ _ _ _ x.body.length x.body
    rw [HN.out.2]
    exact HX.out.2.1.below (put3_bel HA4.out.2.2) fun g hg => (HX.out.2.1.lt hg).1
  · show (keepH r.name x.hs).length ≤ 100 + (k + 1)
    have := HX.out.2.2.1
    have h9 : (keepH r.name x.hs).length ≤ x.hs.length := List.length_filter_le _ _
    rw [HN.out.1] at h9
    omega
  · show x.body.length ≤ _
    rw [HN.out.2]
    exact HX.out.2.2.2.1
theorem arnd_rem (S : Stt σ) (hS : KeepsSt S) (k : Nat) (ex : Nat → Prop) (r : RuleV) (place : Nat) (w : World) (hk : k ≤ 800) (hex : ∀ g, ex g → g < w.heap.size) (hrow : ∀ g, S.row = some g → ex g) :
    Calls Tryz.prog 60 #[.agg r.cells, .int .i64 (place : Int)] w fun e w' => ∃ rv, e = .returned rv ∧ Arnd Tryz.prog S (callL k) (callL (k + 1)) ex rv (fun F x s => F (remC r x) s) w' ∧ Below w.heap.size w w' := by
  obtain ⟨hb0, hr0⟩ := rule_room w r
  have hx : ¬ ex w.heap.size := fun h => Nat.lt_irrefl _ (hex _ h)
  have HC := Lib.hid (before_c S hS k ex _ _ _ (fun g h => Nat.lt_of_lt_of_le (hex g h) hb0.size) (fun g h => Nat.lt_of_lt_of_le (hex g (hrow g h)) hb0.size) (pur61 k ex w.heap.size r _ hr0 hx hk))
  have HB := Lib.hid hb0
  have hcs : r.cells = #[.string r.path, .string r.name, .string r.value, .int .i64 r.kind, .int .i64 r.code, .int .i64 r.n] := rfl
  rw [hcs]
  clear hb0 hr0 hx hcs
  go_enter Tryz.func60, Tryz.ntmps60
  go_wp2_with fail
  refine HC.out.mono ?_
  rintro e w1 ⟨rv, rfl, g1, g2⟩
  have HR := Lib.hid (And.intro g1 (HB.out.trans (g2.mono HB.out.size)))
  obtain ⟨K, f, c, rfl, _⟩ := g1
  clear g2
  go_wp2
  go_ret
  exact ⟨_, rfl, HR.out.1, HR.out.2⟩
end Go.Proofs.YthokfopeddaiiaaGreatDoor
