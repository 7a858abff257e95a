/-
  Contracts: chain.header, the functions of the kinds Add and Tag.
-/
import Derived.Test.YthokfopeddaiiaaGreatDoorArc
import Derived.Deep.RegionLaw
namespace Go.Proofs.YthokfopeddaiiaaGreatDoor
open Go.RowKit Go.Own Go.Own.Fn Go.Shelf
attribute [local go_sem] Oper.semAt_some
variable {σ : Type}
/-- A header more. -/
def addC (r : RuleV) (x : CallV) : CallV := { x with hs := x.hs ++ [⟨r.name, r.value, false⟩] }
def addA (r : RuleV) (x : AnsV) : AnsV := { x with hs := x.hs ++ [⟨r.name, r.value, false⟩] }
/-- What is known of a call's place. -/
theorem call_cells {w : World} {g : Nat} {a b c : Value} (h : Blk w g 26 #[a, b, c]) : w.cell? ⟨g, 0, none⟩ = some a ∧ w.cell? ⟨g, 1, none⟩ = some b ∧ w.cell? ⟨g, 2, none⟩ = some c ∧ w.frozen? ⟨g, 0, none⟩ = false ∧ w.frozen? ⟨g, 1, none⟩ = false ∧ w.frozen? ⟨g, 2, none⟩ = false :=
  ⟨h.cell 0, h.cell 1, h.cell 2, h.frozen 0, h.frozen 1, h.frozen 2⟩
theorem add_mid {W w1 w2 : World} {v : Value} {l : List HdrV} {n : Nat} (hn : l.length = n) (g1 : Hw w1 W.heap.size v l) (b1 : Below W.heap.size W w1) (g2 : Below w1.heap.size w1 w2) :
    (∀ o, (w2.alloc o).ownsRow W.heap.size 34 3 v n (hcells l)) ∧ Below W.heap.size W w2 := by
  subst hn
  exact ⟨fun o => World.ownsRow.alloc (g1.below g2) o, b1.trans (g2.mono b1.size)⟩
theorem add_step {W w1 w2 w3 : World} {v v3 : Value} {l : List HdrV} {o : Obj} {n : Nat} {h : HdrV} (hn : l.length = n) (g1 : Hw w1 W.heap.size v l) (b1 : Below W.heap.size W w1) (g2 : Below w1.heap.size w1 w2)
    (hown : w3.ownsRow W.heap.size 34 3 v3 (n + 1) (hcells l ++ [.string h.name, .string h.value, .bool h.never])) (hgr : (w2.alloc o).grownBy w3 v.ownBlock) : Hw w3 W.heap.size v3 (l ++ [h]) ∧ Below W.heap.size W w3 := by
  subst hn
  have b2 : Below W.heap.size W w2 := b1.trans (g2.mono b1.size)
  refine ⟨?_, (b2.alloc b2.size o).grown hgr (by have := b2.size; simp; omega) fun k e => (g1.lt k e).1⟩
  unfold Hw
  rw [hcells_append, List.length_append]
  exact hown
/-- A call is stored. -/
def put3 (w : World) (g : Nat) (a b c : Value) : World := ((w.setCell ⟨g, 0, none⟩ a).setCell ⟨g, 1, none⟩ b).setCell ⟨g, 2, none⟩ c
theorem put3_blk {w : World} {g : Nat} {t : TypeId} {a b c a' b' c' : Value} (h : Blk w g t #[a', b', c']) : Blk (put3 w g a b c) g t #[a, b, c] := by
  have := ((h.put 0 a).put 1 b).put 2 c
  exact this
theorem put3_bel {B : Nat} {w w' : World} {a b c : Value} (h : Below B w w') : Below B w (put3 w' (B + 1) a b c) := ((h.setCell (Nat.le_succ _) _).setCell (Nat.le_succ _) _).setCell (Nat.le_succ _) _
theorem put4_bel {B : Nat} {w w' : World} {a b c d : Value} (h : Below B w w') : Below B w (put4 w' (B + 1) a b c d) := (((h.setCell (Nat.le_succ _) _).setCell (Nat.le_succ _) _).setCell (Nat.le_succ _) _).setCell (Nat.le_succ _) _
theorem put3_gr {g : Nat} {w : World} {a b c : Value} : w.grownBy (put3 w g a b c) (some g) := grown_setCell (grown_setCell (grown_setCell (World.grownBy.refl w (some g)) 0 a) 1 b) 2 c
theorem put4_gr {g : Nat} {w : World} {a b c d : Value} : w.grownBy (put4 w g a b c d) (some g) := grown_setCell (grown_setCell (grown_setCell (grown_setCell (World.grownBy.refl w (some g)) 0 a) 1 b) 2 c) 3 d
/-- What is known of a header's place. -/
theorem hdr_cells {w : World} {g : Nat} {a b c : Value} (h : Blk w g 34 #[a, b, c]) : w.cell? ⟨g, 0, none⟩ = some a ∧ w.cell? ⟨g, 1, none⟩ = some b ∧ w.cell? ⟨g, 2, none⟩ = some c := ⟨h.cell 0, h.cell 1, h.cell 2⟩
set_option maxRecDepth 100000 in
theorem header_any (r : RuleV) (w : World) : Calls Tryz.prog 58 #[.agg r.cells] w fun e w' => e = .returned (.agg #[.string r.name, .string r.value, .bool false]) ∧ Below w.heap.size w w' := by
  obtain ⟨a, b, c, d, e, f⟩ := r
  simp only [RuleV.cells]
  go_enter Tryz.func58, Tryz.ntmps58
  go_wp2
  exact bodyPost_ret (v := .agg #[.string b, .string c, .bool false]) (by simp [results, Tryz.results58, go_sem]) rfl ⟨rfl, ((Below.refl _ _).alloc (Nat.le_refl _) _).alloc (by simp) _⟩

theorem res56 (tmps : Array Value) (w : World) (g : Nat) (a b c : Value) (ht : tmps[3]? = some (.pointer (some ⟨g, 0, none⟩))) (hb : Blk w g 26 #[a, b, c]) :
    (results Tryz.f56 tmps).run Tryz.prog w = .ok (.agg #[a, b, c]) w := by
  have c0 : w.cell? ⟨g, 0, none⟩ = some a := hb.cell 0
  have c1 : w.cell? ⟨g, 1, none⟩ = some b := hb.cell 1
  have c2 : w.cell? ⟨g, 2, none⟩ = some c := hb.cell 2
  simp [results, Tryz.results56, go_sem, ht, c0, c1, c2]
set_option maxRecDepth 100000 in
set_option maxHeartbeats 2000000 in
theorem pur56 (k : Nat) (ex : Nat → Prop) (br : Nat) (r : RuleV) (w0 : World) (hr : Blk w0 br 46 r.cells) (nx : ¬ ex br) (hk1 : k ≤ 800) :
    PurC Tryz.prog (RXk k) (RXk (k + 1)) ex (.func (.func 56) #[] #[.pointer (some ⟨br, 0, none⟩)]) (addC r) w0 := by
  refine ⟨56, #[.pointer (some ⟨br, 0, none⟩)], rfl, enters_of Tryz.func56 (by kernel_rfl) rfl, fun w xv x hw hxv => ?_⟩
  show Calls Tryz.prog 56 #[xv, .pointer (some ⟨br, 0, none⟩)] w _
  have HRr := Lib.hid (Blk.kx hr hw nx)
  have HK1 := Lib.hid hk1
  obtain ⟨hv, bv, rfl, h1, h2, h3, h4⟩ := hxv
  have hlen : x.hs.length ≤ 10000 := by omega
  obtain ⟨A1, c1, rfl, _⟩ := h1.form
  obtain ⟨A2, c2, rfl⟩ := owSlc h2
  have HX := Lib.hid (And.intro h1 (And.intro h2 (And.intro h3 (And.intro h4 hlen))))
  obtain ⟨n1, hn1⟩ : ∃ n, x.hs.length = n := ⟨_, rfl⟩
  obtain ⟨n2, hn2⟩ : ∃ n, x.body.length = n := ⟨_, rfl⟩
  obtain ⟨xp, hxp⟩ : ∃ p, x.path = p := ⟨_, rfl⟩
  rw [hn1, hn2] at HX ⊢
  rw [hxp]
  have HXp := Lib.hid hxp
  clear hxp
  have HN := Lib.hid (And.intro hn1 hn2)
  have l2 := HRr.out.lt
  obtain ⟨W, hW⟩ : ∃ W, (w.alloc (.cells #[.string xp, .slice A1 n1 c1, .slice A2 n2 c2] 26)).alloc (.cells #[.string ⟨#[]⟩, .slice none 0 0, .slice none 0 0] 26) = W := ⟨_, rfl⟩
  have hbw : Below w.heap.size w W := hW ▸ ((Below.refl _ _).alloc (Nat.le_refl _) _).alloc (by simp) _
  have hbox : Blk W w.heap.size 26 #[.string xp, .slice A1 n1 c1, .slice A2 n2 c2] := hW ▸ (Blk.new _ _ _).alloc _
  have hres : Blk W (w.heap.size + 1) 26 #[.string ⟨#[]⟩, .slice none 0 0, .slice none 0 0] := by
    have := Blk.new (w.alloc (.cells #[.string xp, .slice A1 n1 c1, .slice A2 n2 c2] 26)) 26 #[.string ⟨#[]⟩, .slice none 0 0, .slice none 0 0]
    rw [hW] at this
    simpa using this
  have hdr : Below W.heap.size W W.drew := (Below.refl _ _).drew
  have hsz := hbw.size
  have hsz2 : w.heap.size + 2 ≤ W.heap.size := by rw [← hW]; simp
  have CL : Hid (Calls Tryz.prog 57 #[.slice A1 n1 c1] W.drew fun e w1 => ∃ A c, e = .returned (.slice A n1 c) ∧ Hid (Hw w1 W.heap.size (.slice A n1 c) x.hs ∧ Below W.heap.size W w1) ∧
      (w1.cell? ⟨br, 0, none⟩ = some (.string r.path) ∧ w1.cell? ⟨br, 1, none⟩ = some (.string r.name) ∧ w1.cell? ⟨br, 2, none⟩ = some (.string r.value) ∧ w1.cell? ⟨br, 3, none⟩ = some (.int .i64 r.kind) ∧
    w1.cell? ⟨br, 4, none⟩ = some (.int .i64 r.code) ∧ w1.cell? ⟨br, 5, none⟩ = some (.int .i64 r.n))) := Lib.hid (by
    refine (clone_h _ x.hs W.drew (by have := HX.out.2.2.2.2; omega) ((HX.out.1.below hbw).below hdr)).mono ?_
    rintro e w1 ⟨v, rfl, g1, g2⟩
    obtain ⟨A, c, rfl, _⟩ := g1.form
    rw [hn1] at g1 ⊢
    have g3 : Below W.heap.size W w1 := hdr.trans g2
    exact ⟨A, c, rfl, Lib.hid ⟨g1, g3⟩, rule_cells (HRr.out.below (hbw.trans (g3.mono hsz)) l2)⟩)
  have CH : Hid (∀ W1, Calls Tryz.prog 58 #[.agg #[.string r.path, .string r.name, .string r.value, .int .i64 r.kind, .int .i64 r.code, .int .i64 r.n]] W1 fun e w' => e = .returned (.agg #[.string r.name, .string r.value, .bool false]) ∧ Below W1.heap.size W1 w') := Lib.hid fun W1 => header_any r W1
  obtain ⟨r0, r1, r2, r3, r4, r5⟩ := rule_cells (HRr.out.below hbw l2)
  have q0 : W.cell? ⟨w.heap.size, 0, none⟩ = some (.string xp) := hbox.cell 0
  have q1 : W.cell? ⟨w.heap.size, 1, none⟩ = some (.slice A1 n1 c1) := hbox.cell 1
  have q2 : W.cell? ⟨w.heap.size, 2, none⟩ = some (.slice A2 n2 c2) := hbox.cell 2
  obtain ⟨i0, hi, hz0, hz1, hz2⟩ := infoH
  have HI := Lib.hid (And.intro hi (And.intro hz0 (And.intro hz1 hz2)))
  have HB := Lib.hid (And.intro hbw (And.intro hbox hres))
  have HSZ : Hid (w.heap.size + 1 < W.heap.size) := Lib.hid (by omega)
  clear hi hz0 hz1 hz2 h1 h2 h3 h4 hlen hn1 hn2 hr nx hw hbw hbox hres hdr hsz hk1
  go_enter Tryz.func56, Tryz.ntmps56
  go_wp2_with fail
  have hone : ∀ u ∈ ([.string r.name, .string r.value, .bool false] : List Value), u.oneCell' = true := by
    intro u hu
    simp at hu
    rcases hu with rfl | rfl | rfl <;> rfl
  have HO1 := Lib.hid hone
  clear hone
  have h63 : Hid (n1 + 1 ≤ maxLen ∧ (n1 + 1) * 40 ≤ 140737488355328) := Lib.hid (by have := HX.out.2.2.2.2; simp only [maxLen]; omega)
  go_region_law (first
    | (go_simp; go_at_call 57; refine CL.out.mono ?_; rintro e w1 ⟨A, c, rfl, H1, r0, r1, r2, r3, r4, r5⟩)
    | (go_simp; go_at_call 58; refine (CH.out _).mono ?_; rintro e w2 ⟨rfl, g2⟩; have H2 := Lib.hid (add_mid HN.out.1 H1.out.1 H1.out.2 g2); have G2 := Lib.hid g2; have z2 := Nat.le_trans H1.out.2.size g2.size; clear g2)
    | (refine step_append_lies _ (by rfl) (.tmp 6) (.tmp 9) 23 (by rfl) W.heap.size 34 i0 (.agg #[.string ⟨#[]⟩, .string ⟨#[]⟩, .bool false]) 3 40 Tryz.underlying23 HI.out.1 HI.out.2.1 HI.out.2.2.1 HI.out.2.2.2 rfl (by decide) (.slice A n1 c) n1 (hcells x.hs) (by rfl) (by exact H2.out.1 _) ⟨w2.heap.size, 0, none⟩ 1 1 [.string r.name, .string r.value, .bool false] (by rfl) (by rfl) (by exact World.news_of_block (heap_alloc_new w2 _)) (by exact HO1.out) (by decide) (by exact h63.out.1) (by exact h63.out.2) (by exact Nat.le_trans z2 (by simp)) (w2.heap.size + 1) (by simp) ?_; intro g cap w3 hown hgr _ _; have H3 := Lib.hid (add_step (h := ⟨r.name, r.value, false⟩) HN.out.1 H1.out.1 H1.out.2 G2.out hown hgr); have K3 := H3.out.2; obtain ⟨z0, z1, z2, y0, y1, y2⟩ := call_cells (HB.out.2.1.below K3 (Nat.lt_of_succ_lt HSZ.out)); clear hown hgr K3))
  all_goals
    have K3 := H3.out.2
    have B4 := (HB.out.2.1.below K3 (Nat.lt_of_succ_lt HSZ.out)).put 1 (.slice (some ⟨g, 0, none⟩) (n1 + 1) cap)
    have R4 := (HB.out.2.2.below K3 HSZ.out).far (p := ⟨w.heap.size, 1, none⟩) (by simp) (.slice (some ⟨g, 0, none⟩) (n1 + 1) cap)
    have hge := H3.out.1.lt g rfl
    have H4 : Hw (w3.setCell ⟨w.heap.size, 1, none⟩ (.slice (some ⟨g, 0, none⟩) (n1 + 1) cap)) W.heap.size (.slice (some ⟨g, 0, none⟩) (n1 + 1) cap) (x.hs ++ [⟨r.name, r.value, false⟩]) :=
      H3.out.1.grown (grown_setCell (World.grownBy.refl w3 (some w.heap.size)) 1 _) (.inr (by have := HSZ.out; simp [Value.ownBlock]; omega))
    have W4b : Below w.heap.size w (w3.setCell ⟨w.heap.size, 1, none⟩ (.slice (some ⟨g, 0, none⟩) (n1 + 1) cap)) := (HB.out.1.trans (K3.mono HB.out.1.size)).setCell (Nat.le_refl _) _
    have HA4 := Lib.hid (And.intro R4 (And.intro H4 W4b))
    obtain ⟨e0, e1, e2, j0, j1, j2⟩ := call_cells B4
    obtain ⟨f0, f1, f2, m0, m1, m2⟩ := call_cells R4
    have hs4 : w.heap.size + 1 < (w3.setCell ⟨w.heap.size, 1, none⟩ (.slice (some ⟨g, 0, none⟩) (n1 + 1) cap)).heap.size := R4.lt
    clear B4 R4 H4 W4b K3
    generalize w3.setCell ⟨w.heap.size, 1, none⟩ (.slice (some ⟨g, 0, none⟩) (n1 + 1) cap) = W4 at *
    go_wp2
    refine bodyPost_ret (res56 _ _ (w.heap.size + 1) _ _ _ rfl (put3_blk HA4.out.1)) rfl ⟨_, rfl, ?_, put3_bel HA4.out.2.2⟩
    refine ⟨.slice (some ⟨g, 0, none⟩) (n1 + 1) cap, .slice A2 n2 c2, by rw [← HXp.out]; rfl, ?_, ?_, ?_, ?_⟩
    · exact (HA4.out.2.1.grown put3_gr (.inr (by have := HSZ.out; simp [Value.ownBlock]; omega))).base (Nat.zero_le _)
    · show Ow _ _ _ _ x.body.length x.body
      rw [HN.out.2]
      exact HX.out.2.1.below (put3_bel HA4.out.2.2) fun g hg => (HX.out.2.1.lt hg).1
    · show (x.hs ++ [_]).length ≤ 100 + (k + 1)
      rw [List.length_append, HN.out.1]
      have := HX.out.2.2.1
      simp only [List.length_cons, List.length_nil]
      omega
    · show x.body.length ≤ _
      rw [HN.out.2]
      exact HX.out.2.2.2.1

theorem res76 (tmps : Array Value) (w : World) (g : Nat) (a b c d : Value) (ht : tmps[3]? = some (.pointer (some ⟨g, 0, none⟩))) (hb : Blk w g 39 #[a, b, c, d]) :
    (results Tryz.f76 tmps).run Tryz.prog w = .ok (.agg #[a, b, c, d]) w := by
  have c0 : w.cell? ⟨g, 0, none⟩ = some a := hb.cell 0
  have c1 : w.cell? ⟨g, 1, none⟩ = some b := hb.cell 1
  have c2 : w.cell? ⟨g, 2, none⟩ = some c := hb.cell 2
  have c3 : w.cell? ⟨g, 3, none⟩ = some d := hb.cell 3
  simp [results, Tryz.results76, go_sem, ht, c0, c1, c2, c3]
set_option maxRecDepth 100000 in
set_option maxHeartbeats 2000000 in
theorem pur76 (k : Nat) (ex : Nat → Prop) (br : Nat) (r : RuleV) (w0 : World) (hr : Blk w0 br 46 r.cells) (nx : ¬ ex br) (hk1 : k ≤ 800) :
    PurC Tryz.prog (RYk (k + 1)) (RYk k) ex (.func (.func 76) #[] #[.pointer (some ⟨br, 0, none⟩)]) (addA r) w0 := by
  refine ⟨76, #[.pointer (some ⟨br, 0, none⟩)], rfl, enters_of Tryz.func76 (by kernel_rfl) rfl, fun w xv x hw hxv => ?_⟩
  show Calls Tryz.prog 76 #[xv, .pointer (some ⟨br, 0, none⟩)] w _
  have HRr := Lib.hid (Blk.kx hr hw nx)
  have HK1 := Lib.hid hk1
  obtain ⟨hv, bv, rfl, h1, h2, h3, h4⟩ := hxv
  have hlen : x.hs.length ≤ 10000 := by omega
  obtain ⟨A1, c1, rfl, _⟩ := h1.form
  obtain ⟨A2, c2, rfl⟩ := owSlc h2
  have HX := Lib.hid (And.intro h1 (And.intro h2 (And.intro h3 (And.intro h4 hlen))))
  obtain ⟨n1, hn1⟩ : ∃ n, x.hs.length = n := ⟨_, rfl⟩
  obtain ⟨n2, hn2⟩ : ∃ n, x.body.length = n := ⟨_, rfl⟩
  obtain ⟨xq, hxq⟩ : ∃ p, x.code = p := ⟨_, rfl⟩
  obtain ⟨xt, hxt⟩ : ∃ p, x.text = p := ⟨_, rfl⟩
  rw [hn1, hn2] at HX ⊢
  rw [hxq, hxt]
  have HXq := Lib.hid hxq
  have HXt := Lib.hid hxt
  clear hxq hxt
  have HN := Lib.hid (And.intro hn1 hn2)
  have l2 := HRr.out.lt
  obtain ⟨W, hW⟩ : ∃ W, (w.alloc (.cells #[.int .i64 xq, .string xt, .slice A1 n1 c1, .slice A2 n2 c2] 39)).alloc (.cells #[.int .i64 0, .string ⟨#[]⟩, .slice none 0 0, .slice none 0 0] 39) = W := ⟨_, rfl⟩
  have hbw : Below w.heap.size w W := hW ▸ ((Below.refl _ _).alloc (Nat.le_refl _) _).alloc (by simp) _
  have hbox : Blk W w.heap.size 39 #[.int .i64 xq, .string xt, .slice A1 n1 c1, .slice A2 n2 c2] := hW ▸ (Blk.new _ _ _).alloc _
  have hres : Blk W (w.heap.size + 1) 39 #[.int .i64 0, .string ⟨#[]⟩, .slice none 0 0, .slice none 0 0] := by
    have := Blk.new (w.alloc (.cells #[.int .i64 xq, .string xt, .slice A1 n1 c1, .slice A2 n2 c2] 39)) 39 #[.int .i64 0, .string ⟨#[]⟩, .slice none 0 0, .slice none 0 0]
    rw [hW] at this
    simpa using this
  have hdr : Below W.heap.size W W.drew := (Below.refl _ _).drew
  have hsz := hbw.size
  have hsz2 : w.heap.size + 2 ≤ W.heap.size := by rw [← hW]; simp
  have CL : Hid (Calls Tryz.prog 57 #[.slice A1 n1 c1] W.drew fun e w1 => ∃ A c, e = .returned (.slice A n1 c) ∧ Hid (Hw w1 W.heap.size (.slice A n1 c) x.hs ∧ Below W.heap.size W w1) ∧
      (w1.cell? ⟨br, 0, none⟩ = some (.string r.path) ∧ w1.cell? ⟨br, 1, none⟩ = some (.string r.name) ∧ w1.cell? ⟨br, 2, none⟩ = some (.string r.value) ∧ w1.cell? ⟨br, 3, none⟩ = some (.int .i64 r.kind) ∧
    w1.cell? ⟨br, 4, none⟩ = some (.int .i64 r.code) ∧ w1.cell? ⟨br, 5, none⟩ = some (.int .i64 r.n))) := Lib.hid (by
    refine (clone_h _ x.hs W.drew (by have := HX.out.2.2.2.2; omega) ((HX.out.1.below hbw).below hdr)).mono ?_
    rintro e w1 ⟨v, rfl, g1, g2⟩
    obtain ⟨A, c, rfl, _⟩ := g1.form
    rw [hn1] at g1 ⊢
    have g3 : Below W.heap.size W w1 := hdr.trans g2
    exact ⟨A, c, rfl, Lib.hid ⟨g1, g3⟩, rule_cells (HRr.out.below (hbw.trans (g3.mono hsz)) l2)⟩)
  have CH : Hid (∀ W1, Calls Tryz.prog 58 #[.agg #[.string r.path, .string r.name, .string r.value, .int .i64 r.kind, .int .i64 r.code, .int .i64 r.n]] W1 fun e w' => e = .returned (.agg #[.string r.name, .string r.value, .bool false]) ∧ Below W1.heap.size W1 w') := Lib.hid fun W1 => header_any r W1
  obtain ⟨r0, r1, r2, r3, r4, r5⟩ := rule_cells (HRr.out.below hbw l2)
  have q0 : W.cell? ⟨w.heap.size, 0, none⟩ = some (.int .i64 xq) := hbox.cell 0
  have q1 : W.cell? ⟨w.heap.size, 1, none⟩ = some (.string xt) := hbox.cell 1
  have q2 : W.cell? ⟨w.heap.size, 2, none⟩ = some (.slice A1 n1 c1) := hbox.cell 2
  have q3 : W.cell? ⟨w.heap.size, 3, none⟩ = some (.slice A2 n2 c2) := hbox.cell 3
  obtain ⟨i0, hi, hz0, hz1, hz2⟩ := infoH
  have HI := Lib.hid (And.intro hi (And.intro hz0 (And.intro hz1 hz2)))
  have HB := Lib.hid (And.intro hbw (And.intro hbox hres))
  have HSZ : Hid (w.heap.size + 1 < W.heap.size) := Lib.hid (by omega)
  clear hi hz0 hz1 hz2 h1 h2 h3 h4 hlen hn1 hn2 hr nx hw hbw hbox hres hdr hsz hk1
  go_enter Tryz.func76, Tryz.ntmps76
  go_wp2_with fail
  have hone : ∀ u ∈ ([.string r.name, .string r.value, .bool false] : List Value), u.oneCell' = true := by
    intro u hu
    simp at hu
    rcases hu with rfl | rfl | rfl <;> rfl
  have HO1 := Lib.hid hone
  clear hone
  have h63 : Hid (n1 + 1 ≤ maxLen ∧ (n1 + 1) * 40 ≤ 140737488355328) := Lib.hid (by have := HX.out.2.2.2.2; simp only [maxLen]; omega)
  go_region_law (first
    | (go_simp; go_at_call 57; refine CL.out.mono ?_; rintro e w1 ⟨A, c, rfl, H1, r0, r1, r2, r3, r4, r5⟩)
    | (go_simp; go_at_call 58; refine (CH.out _).mono ?_; rintro e w2 ⟨rfl, g2⟩; have H2 := Lib.hid (add_mid HN.out.1 H1.out.1 H1.out.2 g2); have G2 := Lib.hid g2; have z2 := Nat.le_trans H1.out.2.size g2.size; clear g2)
    | (refine step_append_lies _ (by rfl) (.tmp 6) (.tmp 9) 23 (by rfl) W.heap.size 34 i0 (.agg #[.string ⟨#[]⟩, .string ⟨#[]⟩, .bool false]) 3 40 Tryz.underlying23 HI.out.1 HI.out.2.1 HI.out.2.2.1 HI.out.2.2.2 rfl (by decide) (.slice A n1 c) n1 (hcells x.hs) (by rfl) (by exact H2.out.1 _) ⟨w2.heap.size, 0, none⟩ 1 1 [.string r.name, .string r.value, .bool false] (by rfl) (by rfl) (by exact World.news_of_block (heap_alloc_new w2 _)) (by exact HO1.out) (by decide) (by exact h63.out.1) (by exact h63.out.2) (by exact Nat.le_trans z2 (by simp)) (w2.heap.size + 1) (by simp) ?_; intro g cap w3 hown hgr _ _; have H3 := Lib.hid (add_step (h := ⟨r.name, r.value, false⟩) HN.out.1 H1.out.1 H1.out.2 G2.out hown hgr); have K3 := H3.out.2; obtain ⟨z0, z1, z2, z3, y0, y1, y2, y3⟩ := ans_cells (HB.out.2.1.below K3 (Nat.lt_of_succ_lt HSZ.out)); clear hown hgr K3))
  all_goals
    have K3 := H3.out.2
    have B4 := (HB.out.2.1.below K3 (Nat.lt_of_succ_lt HSZ.out)).put 2 (.slice (some ⟨g, 0, none⟩) (n1 + 1) cap)
    have R4 := (HB.out.2.2.below K3 HSZ.out).far (p := ⟨w.heap.size, 2, none⟩) (by simp) (.slice (some ⟨g, 0, none⟩) (n1 + 1) cap)
    have hge := H3.out.1.lt g rfl
    have H4 : Hw (w3.setCell ⟨w.heap.size, 2, none⟩ (.slice (some ⟨g, 0, none⟩) (n1 + 1) cap)) W.heap.size (.slice (some ⟨g, 0, none⟩) (n1 + 1) cap) (x.hs ++ [⟨r.name, r.value, false⟩]) :=
      H3.out.1.grown (grown_setCell (World.grownBy.refl w3 (some w.heap.size)) 2 _) (.inr (by have := HSZ.out; simp [Value.ownBlock]; omega))
    have W4b : Below w.heap.size w (w3.setCell ⟨w.heap.size, 2, none⟩ (.slice (some ⟨g, 0, none⟩) (n1 + 1) cap)) := (HB.out.1.trans (K3.mono HB.out.1.size)).setCell (Nat.le_refl _) _
    have HA4 := Lib.hid (And.intro R4 (And.intro H4 W4b))
    obtain ⟨e0, e1, e2, e3, j0, j1, j2, j3⟩ := ans_cells B4
    obtain ⟨f0, f1, f2, f3, m0, m1, m2, m3⟩ := ans_cells R4
    have hs4 : w.heap.size + 1 < (w3.setCell ⟨w.heap.size, 2, none⟩ (.slice (some ⟨g, 0, none⟩) (n1 + 1) cap)).heap.size := R4.lt
    clear B4 R4 H4 W4b K3
    generalize w3.setCell ⟨w.heap.size, 2, none⟩ (.slice (some ⟨g, 0, none⟩) (n1 + 1) cap) = W4 at *
    go_wp2
    refine bodyPost_ret (res76 _ _ (w.heap.size + 1) _ _ _ _ rfl (put4_blk HA4.out.1)) rfl ⟨_, rfl, ?_, put4_bel HA4.out.2.2⟩
    refine ⟨.slice (some ⟨g, 0, none⟩) (n1 + 1) cap, .slice A2 n2 c2, by rw [← HXq.out, ← HXt.out]; rfl, ?_, ?_, ?_, ?_⟩
    · exact (HA4.out.2.1.grown put4_gr (.inr (by have := HSZ.out; simp [Value.ownBlock]; omega))).base (Nat.zero_le _)
    · show Ow _ _ _ _ x.body.length x.body
      rw [HN.out.2]
      exact HX.out.2.1.below (put4_bel HA4.out.2.2) fun g hg => (HX.out.2.1.lt hg).1
    · show (x.hs ++ [_]).length + k ≤ 1000
      rw [List.length_append, HN.out.1]
      have := HX.out.2.2.1
      simp only [List.length_cons, List.length_nil]
      omega
    · show x.body.length ≤ _
      rw [HN.out.2]
      exact HX.out.2.2.2.1
end Go.Proofs.YthokfopeddaiiaaGreatDoor
