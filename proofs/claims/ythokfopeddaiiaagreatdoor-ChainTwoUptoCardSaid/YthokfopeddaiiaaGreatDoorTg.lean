/-
  Contracts: ChainTwo's functions: the one that lets a call go through the inner list.
-/
import Derived.Test.YthokfopeddaiiaaGreatDoorTf
namespace Go.Proofs.YthokfopeddaiiaaGreatDoor
open Go.RowKit Go.Own Go.Own.Fn Go.Shelf
attribute [local go_sem] Oper.semAt_some
theorem cntMk (g pc : Nat) (W : World) : Calls Tryz.prog 13 #[.pointer (some ⟨g, 0, none⟩), .pointer (some ⟨pc, 0, none⟩)] W fun e w' => e = .returned (cntV W.heap.size pc) ∧ w' = W.alloc (.cells #[.pointer (some ⟨g, 0, none⟩)] 36) := by
  go_enter Tryz.func13, Tryz.ntmps13
  go_wp2
  go_ret
  exact ⟨rfl, rfl⟩
theorem res16 (tmps : Array Value) (w : World) (g : Nat) (a b c d : Value) (ht : tmps[5]? = some (.pointer (some ⟨g, 0, none⟩))) (hb : Blk w g 39 #[a, b, c, d]) :
    (results Tryz.f16 tmps).run Tryz.prog w = .ok (.agg #[a, b, c, d]) w := by
  have c0 : w.cell? ⟨g, 0, none⟩ = some a := hb.cell 0
  have c1 : w.cell? ⟨g, 1, none⟩ = some b := hb.cell 1
  have c2 : w.cell? ⟨g, 2, none⟩ = some c := hb.cell 2
  have c3 : w.cell? ⟨g, 3, none⟩ = some d := hb.cell 3
  simp [results, Tryz.results16, go_sem, ht, c0, c1, c2, c3]
theorem EnvC.kx {ex : Nat → Prop} {w w' : World} (he : EnvC w) (hk : Kx ex w w') (hex : ∀ i, ex i → i ≠ 0 ∧ i ≠ 1) : EnvC w' := by
  obtain ⟨⟨e, h1⟩, ⟨m, h2⟩⟩ := he
  exact ⟨⟨e, (World.cell?_of_block (hk.block _ (World.block_lt_of_cell? w _ h1) (fun h => (hex _ h).1 rfl))).trans h1⟩, ⟨m, (World.cell?_of_block (hk.block _ (World.block_lt_of_cell? w _ h2) (fun h => (hex _ h).2 rfl))).trans h2⟩⟩
theorem Rs.kx {ex : Nat → Prop} {w w' : World} {A : Option Addr} {n : Nat} {l : List RuleV} (h : Rs w A n l) (hk : Kx ex w w') (hA : 0 < n → ∀ ad, A = some ad → ¬ ex ad.block) : Rs w' A n l :=
  ⟨h.1, fun j r hr => by
    obtain ⟨ad, e, h1, h2, h3⟩ := h.2 j r hr
    have hA := hA (by have := (List.getElem?_eq_some_iff.1 hr).1; rw [h.1] at this; omega)
    have hb : ∀ k, w'.heap[(ad.add k).block]? = w.heap[(ad.add k).block]? := fun k => by rw [add_block]; exact hk.block _ h1 (hA ad e)
    refine ⟨ad, e, Nat.lt_of_lt_of_le h1 hk.size, (World.cell?_of_block (hb _)).trans h2, fun i v hi hv => (World.cell?_of_block (a := ⟨(ad.add (j * 6)).block, (ad.add (j * 6)).off + i, none⟩) (hb _)).trans (h3 i v hi hv)⟩⟩
theorem Rs.lt {w : World} {A : Option Addr} {n : Nat} {l : List RuleV} (h : Rs w A n l) (hn : 0 < n) : ∀ ad, A = some ad → ad.block < w.heap.size := fun ad e => by
  obtain ⟨r, hr⟩ : ∃ r, l[0]? = some r := ⟨_, List.getElem?_eq_getElem (by rw [h.1]; exact hn)⟩
  obtain ⟨ad', e', h1, _⟩ := h.2 0 r hr
  obtain rfl := Option.some.inj (e.symm.trans e')
  exact h1
/-- What is known when the counting function is made. -/
def MkPost (g pb pc : Nat) (Ab : Option Addr) (nb cb : Nat) (k : Nat) (xp : ByteArray) (A1 : Option Addr) (m1 c1 : Nat) (A2 : Option Addr) (m2 c2 : Nat) (w W Wc : World) (Yv : AnsV × Int) (e : Ending) (w8 : World) : Prop :=
  ∃ p, e = .returned (cntV p pc) ∧ (w8.cell? ⟨pb, 0, none⟩ = some (.slice Ab nb cb) ∧ w8.cell? ⟨w.heap.size, 0, none⟩ = some (.string xp) ∧ w8.cell? ⟨w.heap.size, 1, none⟩ = some (.slice A1 m1 c1) ∧ w8.cell? ⟨w.heap.size, 2, none⟩ = some (.slice A2 m2 c2)) ∧
    Hid (Below W.heap.size W w8 ∧ (∀ g t cs, Blk Wc g t cs → Blk w8 g t cs) ∧ ∀ w9, Below w8.heap.size w8 w9 →
      Calls Tryz.prog 15 #[.slice Ab nb cb, .agg #[.string xp, .slice A1 m1 c1, .slice A2 m2 c2], cntV p pc] w9 fun e w10 => ∃ q t A6 n6 c6 A8 n8 c8, e = .returned (.tuple #[.agg #[.int .i64 q, .string t, .slice A6 n6 c6, .slice A8 n8 c8], .nilIface]) ∧
        Hid (RYk k w10 (.agg #[.int .i64 q, .string t, .slice A6 n6 c6, .slice A8 n8 c8]) Yv.1 ∧ (cntS g).St Yv.2 w10 ∧ w.grownBy w10 (some g) ∧ (∀ g' t cs, w.heap.size ≤ g' → Blk w9 g' t cs → Blk w10 g' t cs)))
abbrev innV (pb pf g : Nat) : Value := .func (.func 16) #[] #[.pointer (some ⟨pb, 0, none⟩), .pointer (some ⟨pf, 0, none⟩), .pointer (some ⟨g, 0, none⟩)]
set_option maxHeartbeats 4000000 in
set_option maxRecDepth 100000 in
theorem inn_fnc (g pb pf pc : Nat) (code : Int) (k : Nat) (Ab : Option Addr) (nb cb : Nat) (b : List RuleV) (w0 : World) (hk : k + nb ≤ 400) (hnb : nb ≤ 80) (he : EnvC w0) (hg : g ≠ 0 ∧ g ≠ 1) (h1 : Blk w0 pb 22 #[.slice Ab nb cb]) (h2 : Blk w0 pf 40 #[.func (.func 13) #[] #[.pointer (some ⟨pc, 0, none⟩)]]) (h3 : Blk w0 pc 3 #[.int .i64 code])
    (hl : Rs w0 Ab nb b) (hA : 0 < nb → ∀ ad, Ab = some ad → ad.block ≠ g) (hfit : ∀ r ∈ b, okR r = true ∧ SzR r) (hne : pb ≠ g ∧ pf ≠ g ∧ pc ≠ g) :
    Fnc Tryz.prog (cntS g) (callL k) (fun i => i = g) (innV pb pf g) (innerF b (cntF code)) w0 := by
  refine ⟨16, #[], #[.pointer (some ⟨pb, 0, none⟩), .pointer (some ⟨pf, 0, none⟩), .pointer (some ⟨g, 0, none⟩)], rfl, enters_of Tryz.func16 (by kernel_rfl) rfl, fun w s xv x hw hs hxv => ?_⟩
  show Calls Tryz.prog 16 #[xv, .pointer (some ⟨pb, 0, none⟩), .pointer (some ⟨pf, 0, none⟩), .pointer (some ⟨g, 0, none⟩)] w _
  have hE13 : ∀ args w, (callFunc 13 args).run Tryz.prog w = .ok (.enter 13 args) w := enters_of Tryz.func13 (by kernel_rfl) rfl
  have hs : Blk w g 3 #[.int .i64 s] := hs
  have HPb := Lib.hid (Blk.kx h1 hw hne.1)
  have HPf := Lib.hid (Blk.kx h2 hw hne.2.1)
  have HPc := Lib.hid (Blk.kx h3 hw hne.2.2)
  have HS := Lib.hid hs
  have HE := Lib.hid (he.kx hw (fun i h => h ▸ hg))
  have HRs := Lib.hid (hl.kx hw hA)
  have HN := Lib.hid (And.intro hk (And.intro hnb (And.intro hne.2.2 (And.intro hfit (And.intro hne.1 hne.2.1)))))
  obtain ⟨hv, bv, rfl, q1, q2, q3, q4⟩ := hxv
  obtain ⟨A1, c1, rfl, _⟩ := q1.form
  obtain ⟨A2, c2, rfl⟩ := owSlc q2
  have HX := Lib.hid (And.intro q1 (And.intro q2 (And.intro q3 q4)))
  obtain ⟨m1, hm1⟩ : ∃ n, x.hs.length = n := ⟨_, rfl⟩
  obtain ⟨m2, hm2⟩ : ∃ n, x.body.length = n := ⟨_, rfl⟩
  obtain ⟨xp, hxp⟩ : ∃ p, x.path = p := ⟨_, rfl⟩
  rw [hm1, hm2] at HX ⊢
  rw [hxp]
  have HM := Lib.hid (And.intro hm1 (And.intro hm2 hxp))
  obtain ⟨Yv, hYv⟩ : ∃ y, innerF b (cntF code) x s = y := ⟨_, rfl⟩
  rw [hYv]
  have HYv := Lib.hid hYv
  obtain ⟨r1, r2, r3⟩ := room2 w (.string xp) (.slice A1 m1 c1) (.slice A2 m2 c2)
  have HB := Lib.hid r1
  have HC := Lib.hid r2
  have HA := Lib.hid r3
  have lg := hs.lt
  clear h1 h2 h3 hw hl hA hfit hne hs q1 q2 q3 q4 hm1 hm2 hxp hYv r1 r2 r3 hk hnb he hg
  go_enter Tryz.func16, Tryz.ntmps16
  go_upto_region 1 with fail
  have hsz : w.heap.size + 1 < ((w.alloc (callB (.string xp) (.slice A1 m1 c1) (.slice A2 m2 c2))).alloc ansB0).heap.size := HA.out.lt
  generalize (w.alloc _).alloc _ = W at HB HC HA hsz ⊢
  have hsz2 : w.heap.size < W.heap.size := by omega
  have HMk : Hid (∀ Wc, Below W.heap.size W Wc → Calls Tryz.prog 13 #[.pointer (some ⟨g, 0, none⟩), .pointer (some ⟨pc, 0, none⟩)] Wc (MkPost g pb pc Ab nb cb k xp A1 m1 c1 A2 m2 c2 w W Wc Yv)) := Lib.hid (fun Wc hWc => by
    refine (cntMk g pc Wc).mono ?_
    rintro e w8 ⟨rfl, rfl⟩
    have b8 : Below Wc.heap.size Wc (Wc.alloc (.cells #[.pointer (some ⟨g, 0, none⟩)] 36)) := (Below.refl _ _).alloc (Nat.le_refl _) _
    have bW8 := hWc.trans (b8.mono hWc.size)
    have bw8 := HB.out.trans (bW8.mono HB.out.size)
    have hbox := HC.out.below bW8 HC.out.lt
    refine ⟨_, rfl, ⟨(HPb.out.below bw8 HPb.out.lt).cell 0, hbox.cell 0, hbox.cell 1, hbox.cell 2⟩, Lib.hid ⟨bW8, fun g t cs h => h.below b8 h.lt, fun w9 h9 => ?_⟩⟩
    have b9 := b8.trans (h9.mono b8.size)
    have bw9 := bw8.trans (h9.mono bw8.size)
    have hp := (Blk.new Wc 36 #[.pointer (some ⟨g, 0, none⟩)]).below h9 (Blk.new Wc 36 #[.pointer (some ⟨g, 0, none⟩)]).lt
    have hpg : Wc.heap.size ≠ g := by have := hWc.size; omega
    have hf := cnt_fnc g Wc.heap.size pc code (k + nb) (fun i => i = g) w9 HN.out.1 hp (HPc.out.below bw9 HPc.out.lt) hpg HN.out.2.2.1 ⟨hpg, HN.out.2.2.1⟩
    have hap := apply_any (cntS g) (cnt_keeps g) k (fun i => i = g) Ab A1 A2 nb cb m1 c1 m2 c2 b x (cntV Wc.heap.size pc) (cntF code) s w9 HN.out.2.1 (by have := HN.out.1; omega) (fun i h => by subst h; exact Nat.lt_of_lt_of_le lg bw9.size) (fun i h => by injection h with h; exact h.symm) (HE.out.below bw9) (HRs.out.below bw9) HN.out.2.2.2.1 ((Hw.hr HX.out.1).below bw9) ?_ (by rw [HM.out.1]; exact HX.out.2.2.1) (by rw [HM.out.2.1]; exact HX.out.2.2.2) hf (HS.out.below bw9 lg)
    · rw [HM.out.2.2] at hap
      refine hap.mono ?_
      rintro e w10 ⟨yv, rfl, j1, j2, j3⟩
      have hy : wrapS (ruleGs xp 0 b) (cntF code) x s = Yv := by rw [← HYv.out]; unfold innerF; rw [HM.out.2.2]
      rw [hy] at j1 j2
      obtain ⟨q, t, A6, n6, c6, A8, n8, c8, rfl⟩ := (shaped_call k).y j1
      exact ⟨q, t, A6, n6, c6, A8, n8, c8, rfl, Lib.hid ⟨j1, j2, grown_trans (grown_of_below bw9 _) j3, fun g' t cs hg' hb' => hb'.grown j3 (fun e => by injection e with e; omega)⟩⟩
    · exact (owKt HX.out.2.1 byte_notAns (Kt.below bw9)).rd)
  have S1 := Lib.hid (HMk.out W.drew (Below.refl _ _).drew)
  have S2 := Lib.hid (HMk.out (W.alloc (.cells #[.int .i64 0, .string ⟨#[]⟩, .slice none 0 0, .slice none 0 0] 39)).drew (((Below.refl _ _).alloc (Nat.le_refl _) _).drew))
  have p0 : W.cell? ⟨pb, 0, none⟩ = some (.slice Ab nb cb) := (HPb.out.below HB.out HPb.out.lt).cell 0
  have p1 : W.cell? ⟨pf, 0, none⟩ = some (.func (.func 13) #[] #[.pointer (some ⟨pc, 0, none⟩)]) := (HPf.out.below HB.out HPf.out.lt).cell 0
  have p2 : W.cell? ⟨w.heap.size, 0, none⟩ = some (.string xp) := HC.out.cell 0
  have p3 : W.cell? ⟨w.heap.size, 1, none⟩ = some (.slice A1 m1 c1) := HC.out.cell 1
  have p4 : W.cell? ⟨w.heap.size, 2, none⟩ = some (.slice A2 m2 c2) := HC.out.cell 2
  have lpb : pb < W.heap.size := Nat.lt_of_lt_of_le HPb.out.lt HB.out.size
  have lpf : pf < W.heap.size := Nat.lt_of_lt_of_le HPf.out.lt HB.out.size
  have lw1 : pb < w.heap.size := HPb.out.lt
  have lw2 : pf < w.heap.size := HPf.out.lt
  have HSf := Lib.hid (fun W' (hW : Below W.heap.size W W') => (show (fun w' => w'.cell? ⟨pb, 0, none⟩ = some (.slice Ab nb cb) ∧ w'.cell? ⟨pf, 0, none⟩ = some (.func (.func 13) #[] #[.pointer (some ⟨pc, 0, none⟩)]) ∧ w'.cell? ⟨w.heap.size, 0, none⟩ = some (.string xp) ∧ w'.cell? ⟨w.heap.size, 1, none⟩ = some (.slice A1 m1 c1) ∧ w'.cell? ⟨w.heap.size, 2, none⟩ = some (.slice A2 m2 c2)) W' from
    ⟨((HPb.out.below HB.out HPb.out.lt).below hW lpb).cell 0, ((HPf.out.below HB.out HPf.out.lt).below hW lpf).cell 0, (HC.out.below hW HC.out.lt).cell 0, (HC.out.below hW HC.out.lt).cell 1, (HC.out.below hW HC.out.lt).cell 2⟩))
  have HSg := Lib.hid (fun W9 W' (hW : Below W.heap.size W W9) (hg : w.grownBy W' (some g)) (hk : ∀ g' t cs, w.heap.size ≤ g' → Blk W9 g' t cs → Blk W' g' t cs) => (show (fun w' => w'.cell? ⟨pb, 0, none⟩ = some (.slice Ab nb cb) ∧ w'.cell? ⟨pf, 0, none⟩ = some (.func (.func 13) #[] #[.pointer (some ⟨pc, 0, none⟩)]) ∧ w'.cell? ⟨w.heap.size, 0, none⟩ = some (.string xp) ∧ w'.cell? ⟨w.heap.size, 1, none⟩ = some (.slice A1 m1 c1) ∧ w'.cell? ⟨w.heap.size, 2, none⟩ = some (.slice A2 m2 c2)) W' from
    have hc := hk _ _ _ (Nat.le_refl _) (HC.out.below hW HC.out.lt)
    ⟨(HPb.out.grown hg (fun e => HN.out.2.2.2.2.1 (by injection e))).cell 0, (HPf.out.grown hg (fun e => HN.out.2.2.2.2.2 (by injection e))).cell 0, hc.cell 0, hc.cell 1, hc.cell 2⟩))
  have HSa := Lib.hid (fun W' (o : Obj) (h : (fun w' => w'.cell? ⟨pb, 0, none⟩ = some (.slice Ab nb cb) ∧ w'.cell? ⟨pf, 0, none⟩ = some (.func (.func 13) #[] #[.pointer (some ⟨pc, 0, none⟩)]) ∧ w'.cell? ⟨w.heap.size, 0, none⟩ = some (.string xp) ∧ w'.cell? ⟨w.heap.size, 1, none⟩ = some (.slice A1 m1 c1) ∧ w'.cell? ⟨w.heap.size, 2, none⟩ = some (.slice A2 m2 c2)) W') => (show (fun w' => w'.cell? ⟨pb, 0, none⟩ = some (.slice Ab nb cb) ∧ w'.cell? ⟨pf, 0, none⟩ = some (.func (.func 13) #[] #[.pointer (some ⟨pc, 0, none⟩)]) ∧ w'.cell? ⟨w.heap.size, 0, none⟩ = some (.string xp) ∧ w'.cell? ⟨w.heap.size, 1, none⟩ = some (.slice A1 m1 c1) ∧ w'.cell? ⟨w.heap.size, 2, none⟩ = some (.slice A2 m2 c2)) (W'.alloc o) from
    have q := fun {b i : Nat} {v : Value} (h : W'.cell? ⟨b, i, none⟩ = some v) => (World.cell?_alloc_lt W' o ⟨b, i, none⟩ (World.block_lt_of_cell? W' _ h)).trans h
    ⟨q h.1, q h.2.1, q h.2.2.1, q h.2.2.2.1, q h.2.2.2.2⟩))
  have HSp := Lib.hid (fun W' (b : Nat) (v0 v1 v2 v3 : Value) (h : (fun w' => w'.cell? ⟨pb, 0, none⟩ = some (.slice Ab nb cb) ∧ w'.cell? ⟨pf, 0, none⟩ = some (.func (.func 13) #[] #[.pointer (some ⟨pc, 0, none⟩)]) ∧ w'.cell? ⟨w.heap.size, 0, none⟩ = some (.string xp) ∧ w'.cell? ⟨w.heap.size, 1, none⟩ = some (.slice A1 m1 c1) ∧ w'.cell? ⟨w.heap.size, 2, none⟩ = some (.slice A2 m2 c2)) W') (e1 : pb ≠ b) (e2 : pf ≠ b) (e3 : w.heap.size ≠ b) => (show (fun w' => w'.cell? ⟨pb, 0, none⟩ = some (.slice Ab nb cb) ∧ w'.cell? ⟨pf, 0, none⟩ = some (.func (.func 13) #[] #[.pointer (some ⟨pc, 0, none⟩)]) ∧ w'.cell? ⟨w.heap.size, 0, none⟩ = some (.string xp) ∧ w'.cell? ⟨w.heap.size, 1, none⟩ = some (.slice A1 m1 c1) ∧ w'.cell? ⟨w.heap.size, 2, none⟩ = some (.slice A2 m2 c2)) (put4 W' b v0 v1 v2 v3) from
    have q := fun {c i : Nat} {v : Value} (hc : c ≠ b) (h : W'.cell? ⟨c, i, none⟩ = some v) => (show (put4 W' b v0 v1 v2 v3).cell? ⟨c, i, none⟩ = some v from by
      unfold put4
      rw [World.cell?_setCell_far _ _ _ _ (Ne.symm hc), World.cell?_setCell_far _ _ _ _ (Ne.symm hc), World.cell?_setCell_far _ _ _ _ (Ne.symm hc), World.cell?_setCell_far _ _ _ _ (Ne.symm hc)]
      exact h)
    ⟨q e1 h.1, q e2 h.2.1, q e3 h.2.2.1, q e3 h.2.2.2.1, q e3 h.2.2.2.2⟩))
  clear HMk
  go_cut [6] (fun s6 wx => ∃ (g6 : Nat) (q : Int) (t : ByteArray) (A6 : Option Addr) (n6 c6 : Nat) (A8 : Option Addr) (n8 c8 : Nat), s6 = .pointer (some ⟨g6, 0, none⟩) ∧ Hid (FinA (cntS g) k w wx g6 (.int .i64 q) (.string t) (.slice A6 n6 c6) (.slice A8 n8 c8) Yv))
  case first =>
    refine wp_region_noPanic ?_
    refine wp_region_held_drew (S := (fun w' => w'.cell? ⟨pb, 0, none⟩ = some (.slice Ab nb cb) ∧ w'.cell? ⟨pf, 0, none⟩ = some (.func (.func 13) #[] #[.pointer (some ⟨pc, 0, none⟩)]) ∧ w'.cell? ⟨w.heap.size, 0, none⟩ = some (.string xp) ∧ w'.cell? ⟨w.heap.size, 1, none⟩ = some (.slice A1 m1 c1) ∧ w'.cell? ⟨w.heap.size, 2, none⟩ = some (.slice A2 m2 c2))) (by kernel_rfl) ⟨p0, p1, p2, p3, p4⟩ (fun hHeld => ?_)
    refine wpAnyH_take (i := 0) (oi := { dst := some 9, op := Op.load 22 (Operand.tmp 1), type := 22, pos := "law.go:281", after := #[], guard := none }) (v := ?_) rfl (by kernel_rfl) (by kernel_rfl) (by kernel_rfl) (fun _ _ _ h => h) (Or.inl ⟨by rfl, ?_⟩) hHeld ?_
    rotate_left
    · intro w hSw; (try dsimp only at hSw); (try go_split_ands); go_simp; (first | done | with_reducible rfl)
    (try simp only [Act.put, List.setIfInBounds_toArray, List.set_cons_zero, List.set_cons_succ])
    refine wpAnyH_take (i := 1) (oi := { dst := some 10, op := Op.load 26 (Operand.tmp 4), type := 26, pos := "law.go:281", after := #[], guard := none }) (v := ?_) rfl (by kernel_rfl) (by kernel_rfl) (by kernel_rfl) (fun _ _ _ h => h) (Or.inl ⟨by rfl, ?_⟩) hHeld ?_
    rotate_left
    · intro w hSw; (try dsimp only at hSw); (try go_split_ands); go_simp; (first | done | with_reducible rfl)
    (try simp only [Act.put, List.setIfInBounds_toArray, List.set_cons_zero, List.set_cons_succ])
    refine wpAnyH_take (i := 2) (oi := { dst := some 11, op := Op.load 40 (Operand.tmp 2), type := 40, pos := "law.go:281", after := #[], guard := none }) (v := ?_) rfl (by kernel_rfl) (by kernel_rfl) (by kernel_rfl) (fun _ _ _ h => h) (Or.inl ⟨by rfl, ?_⟩) hHeld ?_
    rotate_left
    · intro w hSw; (try dsimp only at hSw); (try go_split_ands); go_simp; (first | done | with_reducible rfl)
    (try simp only [Act.put, List.setIfInBounds_toArray, List.set_cons_zero, List.set_cons_succ])
    refine wpAnyH_ready (rs := [3, 8]) (by kernel_rfl) (by simp) ?_
    refine AllReadyH.cons (o := { dst := some 12, op := Op.call { callee := Callee.value (Operand.tmp 11), args := #[Operand.tmp 3], argTypes := #[36] }, type := 37, pos := "law.go:281", after := #[{ on := 2, ground := Ground.data }], guard := none }) rfl (fun K hK => ?_) (AllReadyH.cons (o := { dst := some 6, op := Op.alloc 39, type := 0, pos := "law.go:281", after := #[], guard := none }) rfl (fun K hK => ?_) AllReadyH.nil)
    · go_simp
      (with_reducible refine S1.out.mono ?_)
      rintro e w8 ⟨p, rfl, _, HH⟩
      have hs := HSf.out w8 HH.out.1
      refine hK.out _ _ hs (fun hHeld2 => ?_)
      clear hHeld
      have hHeld := hHeld2
      clear hHeld2 hK K
      (try simp only [Act.put, List.setIfInBounds_toArray, List.set_cons_zero, List.set_cons_succ])
      refine wpAnyH_ready (rs := [4, 8]) (by kernel_rfl) (by simp) ?_
      refine AllReadyH.cons (o := { dst := some 13, op := Op.call { callee := Callee.value (Operand.func 15), args := #[Operand.tmp 9, Operand.tmp 10, Operand.tmp 12], argTypes := #[22, 26, 37] }, type := 41, pos := "law.go:281", after := #[{ on := 0, ground := Ground.data }, { on := 1, ground := Ground.data }, { on := 3, ground := Ground.data }, { on := 3, ground := Ground.chain }], guard := none }) rfl (fun K hK => ?_) (AllReadyH.cons (o := { dst := some 6, op := Op.alloc 39, type := 0, pos := "law.go:281", after := #[], guard := none }) rfl (fun K hK => ?_) AllReadyH.nil)
      · go_simp
        go_at_call 15
        (with_reducible refine (HH.out.2.2 w8 (Below.refl _ _)).mono ?_)
        rintro e w10 ⟨q, t, A6, n6, c6, A8, n8, c8, rfl, H10⟩
        have hs := HSg.out w8 w10 (HH.out.1.trans (Below.mono (Below.refl _ _) HH.out.1.size)) H10.out.2.2.1 H10.out.2.2.2
        refine hK.out _ _ hs (fun hHeld2 => ?_)
        clear hHeld
        have hHeld := hHeld2
        clear hHeld2 hK K
        (try simp only [Act.put, List.setIfInBounds_toArray, List.set_cons_zero, List.set_cons_succ])
        refine wpAnyH_take (i := 5) (oi := { dst := some 8, op := Op.move (Operand.tmp 13), type := 41, pos := "law.go:281", after := #[{ on := 4, ground := Ground.data }], guard := none }) (v := ?_) rfl (by kernel_rfl) (by kernel_rfl) (by kernel_rfl) (fun _ _ _ h => h) (Or.inl ⟨by rfl, ?_⟩) hHeld ?_
        rotate_left
        · intro w hSw; (try dsimp only at hSw); (try go_split_ands); go_simp; (first | done | with_reducible rfl)
        (try simp only [Act.put, List.setIfInBounds_toArray, List.set_cons_zero, List.set_cons_succ])
        refine wpAnyH_take (i := 6) (oi := { dst := some 14, op := Op.extract (Operand.tmp 8) 0, type := 39, pos := "law.go:281", after := #[{ on := 5, ground := Ground.data }], guard := none }) (v := ?_) rfl (by kernel_rfl) (by kernel_rfl) (by kernel_rfl) (fun _ _ _ h => h) (Or.inl ⟨by rfl, ?_⟩) hHeld ?_
        rotate_left
        · intro w hSw; (try dsimp only at hSw); (try go_split_ands); go_simp; (first | done | with_reducible rfl)
        (try simp only [Act.put, List.setIfInBounds_toArray, List.set_cons_zero, List.set_cons_succ])
        refine wpAnyH_take (i := 7) (oi := { dst := some 15, op := Op.extract (Operand.tmp 8) 1, type := 30, pos := "law.go:281", after := #[{ on := 5, ground := Ground.data }, { on := 9, ground := Ground.gcOnly Departure.lateStores }], guard := none }) (v := ?_) rfl (by kernel_rfl) (by kernel_rfl) (by kernel_rfl) (fun _ _ _ h => h) (Or.inl ⟨by rfl, ?_⟩) hHeld ?_
        rotate_left
        · intro w hSw; (try dsimp only at hSw); (try go_split_ands); go_simp; (first | done | with_reducible rfl)
        (try simp only [Act.put, List.setIfInBounds_toArray, List.set_cons_zero, List.set_cons_succ])
        have hy8 := HA.out.below HH.out.1 HA.out.lt
        have h81 := HH.out.1.size
        have hS10 := hHeld
        have hsz10 := (H10.out.2.2.2 _ _ _ (by omega) hy8).lt
        refine wpAnyH_ready (rs := [8]) (by kernel_rfl) (by simp) ?_
        refine AllReadyH.cons (o := { dst := some 6, op := Op.alloc 39, type := 0, pos := "law.go:281", after := #[], guard := none }) rfl (fun K hK => ?_) AllReadyH.nil
        go_simp
        have hs := HSa.out w10 (.cells #[.int .i64 0, .string ⟨#[]⟩, .slice none 0 0, .slice none 0 0] 39) hHeld
        refine hK.out _ _ hs (fun hHeld2 => ?_)
        clear hHeld
        have hHeld := hHeld2
        clear hHeld2 hK K
        (try simp only [Act.put, List.setIfInBounds_toArray, List.set_cons_zero, List.set_cons_succ])
        refine wpAnyH_ready (rs := [9]) (by kernel_rfl) (by simp) ?_
        refine AllReadyH.cons (o := { dst := none, op := Op.store 39 (Operand.tmp 6) (Operand.tmp 14), type := 0, pos := "law.go:281", after := #[{ on := 8, ground := Ground.data }, { on := 6, ground := Ground.data }, { on := 4, ground := Ground.chain }, { on := 0, ground := Ground.phase }, { on := 1, ground := Ground.phase }, { on := 2, ground := Ground.phase }, { on := 3, ground := Ground.phase }, { on := 4, ground := Ground.phase }, { on := 5, ground := Ground.phase }, { on := 6, ground := Ground.phase }, { on := 7, ground := Ground.textOnly Departure.lateStores }, { on := 8, ground := Ground.phase }], guard := none }) rfl (fun K hK => ?_) AllReadyH.nil
        go_simp
        have hs := HSa.out w10 (.cells #[.int .i64 q, .string t, .slice A6 n6 c6, .slice A8 n8 c8] 39) hS10
        refine hK.out _ _ hs (fun hHeld2 => ?_)
        clear hHeld
        have hHeld := hHeld2
        clear hHeld2 hK K
        (try simp only [Act.put, List.setIfInBounds_toArray, List.set_cons_zero, List.set_cons_succ])
        refine wpAnyH_take (i := 10) (oi := { dst := some 7, op := Op.assign (Operand.tmp 15), type := 30, pos := "law.go:281", after := #[{ on := 7, ground := Ground.data }, { on := 9, ground := Ground.chain }, { on := 0, ground := Ground.phase }, { on := 1, ground := Ground.phase }, { on := 2, ground := Ground.phase }, { on := 3, ground := Ground.phase }, { on := 4, ground := Ground.phase }, { on := 5, ground := Ground.phase }, { on := 6, ground := Ground.phase }, { on := 7, ground := Ground.phase }, { on := 8, ground := Ground.phase }, { on := 9, ground := Ground.phase }], guard := none }) (v := ?_) rfl (by kernel_rfl) (by kernel_rfl) (by kernel_rfl) (fun _ _ _ h => h) (Or.inl ⟨by rfl, ?_⟩) hHeld ?_
        rotate_left
        · intro w hSw; (try dsimp only at hSw); (try go_split_ands); go_simp; (first | done | with_reducible rfl)
        (try simp only [Act.put, List.setIfInBounds_toArray, List.set_cons_zero, List.set_cons_succ])
        refine wpAnyH_done (by kernel_rfl) ?_ _
        refine NoPanic.normal ?_
        go_wp2_with fail
        go_meet
        exact ⟨w10.heap.size, q, t, A6, n6, c6, A8, n8, c8, rfl, Lib.hid (fin_new (cnt_keeps g) H10.out.1 H10.out.2.1 H10.out.2.2.1 (H10.out.2.2.2 _ _ _ (by omega) hy8))⟩
      · go_simp
        have HBn := Lib.hid (Blk.new w8 39 #[.int .i64 0, .string ⟨#[]⟩, .slice none 0 0, .slice none 0 0])
        have hs := HSa.out w8 (.cells #[.int .i64 0, .string ⟨#[]⟩, .slice none 0 0, .slice none 0 0] 39) hHeld
        refine hK.out _ _ hs (fun hHeld2 => ?_)
        clear hHeld
        have hHeld := hHeld2
        clear hHeld2 hK K
        (try simp only [Act.put, List.setIfInBounds_toArray, List.set_cons_zero, List.set_cons_succ])
        refine wpAnyH_ready (rs := [4]) (by kernel_rfl) (by simp) ?_
        refine AllReadyH.cons (o := { dst := some 13, op := Op.call { callee := Callee.value (Operand.func 15), args := #[Operand.tmp 9, Operand.tmp 10, Operand.tmp 12], argTypes := #[22, 26, 37] }, type := 41, pos := "law.go:281", after := #[{ on := 0, ground := Ground.data }, { on := 1, ground := Ground.data }, { on := 3, ground := Ground.data }, { on := 3, ground := Ground.chain }], guard := none }) rfl (fun K hK => ?_) AllReadyH.nil
        go_simp
        go_at_call 15
        (with_reducible refine (HH.out.2.2 (w8.alloc (.cells #[.int .i64 0, .string ⟨#[]⟩, .slice none 0 0, .slice none 0 0] 39)) ((Below.refl _ _).alloc (Nat.le_refl _) _)).mono ?_)
        rintro e w10 ⟨q, t, A6, n6, c6, A8, n8, c8, rfl, H10⟩
        have hs := HSg.out (w8.alloc (.cells #[.int .i64 0, .string ⟨#[]⟩, .slice none 0 0, .slice none 0 0] 39)) w10 (HH.out.1.trans (Below.mono ((Below.refl _ _).alloc (Nat.le_refl _) _) HH.out.1.size)) H10.out.2.2.1 H10.out.2.2.2
        refine hK.out _ _ hs (fun hHeld2 => ?_)
        clear hHeld
        have hHeld := hHeld2
        clear hHeld2 hK K
        (try simp only [Act.put, List.setIfInBounds_toArray, List.set_cons_zero, List.set_cons_succ])
        refine wpAnyH_take (i := 5) (oi := { dst := some 8, op := Op.move (Operand.tmp 13), type := 41, pos := "law.go:281", after := #[{ on := 4, ground := Ground.data }], guard := none }) (v := ?_) rfl (by kernel_rfl) (by kernel_rfl) (by kernel_rfl) (fun _ _ _ h => h) (Or.inl ⟨by rfl, ?_⟩) hHeld ?_
        rotate_left
        · intro w hSw; (try dsimp only at hSw); (try go_split_ands); go_simp; (first | done | with_reducible rfl)
        (try simp only [Act.put, List.setIfInBounds_toArray, List.set_cons_zero, List.set_cons_succ])
        refine wpAnyH_take (i := 6) (oi := { dst := some 14, op := Op.extract (Operand.tmp 8) 0, type := 39, pos := "law.go:281", after := #[{ on := 5, ground := Ground.data }], guard := none }) (v := ?_) rfl (by kernel_rfl) (by kernel_rfl) (by kernel_rfl) (fun _ _ _ h => h) (Or.inl ⟨by rfl, ?_⟩) hHeld ?_
        rotate_left
        · intro w hSw; (try dsimp only at hSw); (try go_split_ands); go_simp; (first | done | with_reducible rfl)
        (try simp only [Act.put, List.setIfInBounds_toArray, List.set_cons_zero, List.set_cons_succ])
        refine wpAnyH_take (i := 7) (oi := { dst := some 15, op := Op.extract (Operand.tmp 8) 1, type := 30, pos := "law.go:281", after := #[{ on := 5, ground := Ground.data }, { on := 9, ground := Ground.gcOnly Departure.lateStores }], guard := none }) (v := ?_) rfl (by kernel_rfl) (by kernel_rfl) (by kernel_rfl) (fun _ _ _ h => h) (Or.inl ⟨by rfl, ?_⟩) hHeld ?_
        rotate_left
        · intro w hSw; (try dsimp only at hSw); (try go_split_ands); go_simp; (first | done | with_reducible rfl)
        (try simp only [Act.put, List.setIfInBounds_toArray, List.set_cons_zero, List.set_cons_succ])
        have hy8 := HA.out.below HH.out.1 HA.out.lt
        have h81 := HH.out.1.size
        have HBm := Lib.hid (H10.out.2.2.2 _ _ _ (by omega) HBn.out)
        refine wpAnyH_ready (rs := [9]) (by kernel_rfl) (by simp) ?_
        refine AllReadyH.cons (o := { dst := none, op := Op.store 39 (Operand.tmp 6) (Operand.tmp 14), type := 0, pos := "law.go:281", after := #[{ on := 8, ground := Ground.data }, { on := 6, ground := Ground.data }, { on := 4, ground := Ground.chain }, { on := 0, ground := Ground.phase }, { on := 1, ground := Ground.phase }, { on := 2, ground := Ground.phase }, { on := 3, ground := Ground.phase }, { on := 4, ground := Ground.phase }, { on := 5, ground := Ground.phase }, { on := 6, ground := Ground.phase }, { on := 7, ground := Ground.textOnly Departure.lateStores }, { on := 8, ground := Ground.phase }], guard := none }) rfl (fun K hK => ?_) AllReadyH.nil
        obtain ⟨z0, z1, z2, z3, z4, z5, z6, z7⟩ := ans_cells HBm.out
        go_simp
        have hs := HSp.out _ w8.heap.size (.int .i64 q) (.string t) (.slice A6 n6 c6) (.slice A8 n8 c8) hHeld (by omega) (by omega) (by omega)
        refine hK.out _ _ hs (fun hHeld2 => ?_)
        clear hHeld
        have hHeld := hHeld2
        clear hHeld2 hK K
        (try simp only [Act.put, List.setIfInBounds_toArray, List.set_cons_zero, List.set_cons_succ])
        refine wpAnyH_take (i := 10) (oi := { dst := some 7, op := Op.assign (Operand.tmp 15), type := 30, pos := "law.go:281", after := #[{ on := 7, ground := Ground.data }, { on := 9, ground := Ground.chain }, { on := 0, ground := Ground.phase }, { on := 1, ground := Ground.phase }, { on := 2, ground := Ground.phase }, { on := 3, ground := Ground.phase }, { on := 4, ground := Ground.phase }, { on := 5, ground := Ground.phase }, { on := 6, ground := Ground.phase }, { on := 7, ground := Ground.phase }, { on := 8, ground := Ground.phase }, { on := 9, ground := Ground.phase }], guard := none }) (v := ?_) rfl (by kernel_rfl) (by kernel_rfl) (by kernel_rfl) (fun _ _ _ h => h) (Or.inl ⟨by rfl, ?_⟩) hHeld ?_
        rotate_left
        · intro w hSw; (try dsimp only at hSw); (try go_split_ands); go_simp; (first | done | with_reducible rfl)
        (try simp only [Act.put, List.setIfInBounds_toArray, List.set_cons_zero, List.set_cons_succ])
        refine wpAnyH_done (by kernel_rfl) ?_ _
        refine NoPanic.normal ?_
        go_wp2_with fail
        go_meet
        exact ⟨w8.heap.size, q, t, A6, n6, c6, A8, n8, c8, rfl, Lib.hid (fin_put (cnt_keeps g) (by omega) H10.out.1 H10.out.2.1 H10.out.2.2.1 (H10.out.2.2.2 _ _ _ (by omega) (hy8.alloc _)) HBm.out)⟩
    · go_simp
      have hs := HSa.out W.drew (.cells #[.int .i64 0, .string ⟨#[]⟩, .slice none 0 0, .slice none 0 0] 39) hHeld
      refine hK.out _ _ hs (fun hHeld2 => ?_)
      clear hHeld
      have hHeld := hHeld2
      clear hHeld2 hK K
      (try simp only [Act.put, List.setIfInBounds_toArray, List.set_cons_zero, List.set_cons_succ])
      refine wpAnyH_ready (rs := [3]) (by kernel_rfl) (by simp) ?_
      refine AllReadyH.cons (o := { dst := some 12, op := Op.call { callee := Callee.value (Operand.tmp 11), args := #[Operand.tmp 3], argTypes := #[36] }, type := 37, pos := "law.go:281", after := #[{ on := 2, ground := Ground.data }], guard := none }) rfl (fun K hK => ?_) AllReadyH.nil
      go_simp
      (with_reducible refine S2.out.mono ?_)
      rintro e w8 ⟨p, rfl, _, HH⟩
      have hs := HSf.out w8 HH.out.1
      refine hK.out _ _ hs (fun hHeld2 => ?_)
      clear hHeld
      have hHeld := hHeld2
      clear hHeld2 hK K
      (try simp only [Act.put, List.setIfInBounds_toArray, List.set_cons_zero, List.set_cons_succ])
      have HBA : Hid (Blk w8 W.heap.size 39 #[.int .i64 0, .string ⟨#[]⟩, .slice none 0 0, .slice none 0 0]) := Lib.hid (HH.out.2.1 _ _ _ (Blk.new W 39 #[.int .i64 0, .string ⟨#[]⟩, .slice none 0 0, .slice none 0 0]))
      refine wpAnyH_ready (rs := [4]) (by kernel_rfl) (by simp) ?_
      refine AllReadyH.cons (o := { dst := some 13, op := Op.call { callee := Callee.value (Operand.func 15), args := #[Operand.tmp 9, Operand.tmp 10, Operand.tmp 12], argTypes := #[22, 26, 37] }, type := 41, pos := "law.go:281", after := #[{ on := 0, ground := Ground.data }, { on := 1, ground := Ground.data }, { on := 3, ground := Ground.data }, { on := 3, ground := Ground.chain }], guard := none }) rfl (fun K hK => ?_) AllReadyH.nil
      go_simp
      go_at_call 15
      (with_reducible refine (HH.out.2.2 w8 (Below.refl _ _)).mono ?_)
      rintro e w10 ⟨q, t, A6, n6, c6, A8, n8, c8, rfl, H10⟩
      have hs := HSg.out w8 w10 (HH.out.1.trans (Below.mono (Below.refl _ _) HH.out.1.size)) H10.out.2.2.1 H10.out.2.2.2
      refine hK.out _ _ hs (fun hHeld2 => ?_)
      clear hHeld
      have hHeld := hHeld2
      clear hHeld2 hK K
      (try simp only [Act.put, List.setIfInBounds_toArray, List.set_cons_zero, List.set_cons_succ])
      refine wpAnyH_take (i := 5) (oi := { dst := some 8, op := Op.move (Operand.tmp 13), type := 41, pos := "law.go:281", after := #[{ on := 4, ground := Ground.data }], guard := none }) (v := ?_) rfl (by kernel_rfl) (by kernel_rfl) (by kernel_rfl) (fun _ _ _ h => h) (Or.inl ⟨by rfl, ?_⟩) hHeld ?_
      rotate_left
      · intro w hSw; (try dsimp only at hSw); (try go_split_ands); go_simp; (first | done | with_reducible rfl)
      (try simp only [Act.put, List.setIfInBounds_toArray, List.set_cons_zero, List.set_cons_succ])
      refine wpAnyH_take (i := 6) (oi := { dst := some 14, op := Op.extract (Operand.tmp 8) 0, type := 39, pos := "law.go:281", after := #[{ on := 5, ground := Ground.data }], guard := none }) (v := ?_) rfl (by kernel_rfl) (by kernel_rfl) (by kernel_rfl) (fun _ _ _ h => h) (Or.inl ⟨by rfl, ?_⟩) hHeld ?_
      rotate_left
      · intro w hSw; (try dsimp only at hSw); (try go_split_ands); go_simp; (first | done | with_reducible rfl)
      (try simp only [Act.put, List.setIfInBounds_toArray, List.set_cons_zero, List.set_cons_succ])
      refine wpAnyH_take (i := 7) (oi := { dst := some 15, op := Op.extract (Operand.tmp 8) 1, type := 30, pos := "law.go:281", after := #[{ on := 5, ground := Ground.data }, { on := 9, ground := Ground.gcOnly Departure.lateStores }], guard := none }) (v := ?_) rfl (by kernel_rfl) (by kernel_rfl) (by kernel_rfl) (fun _ _ _ h => h) (Or.inl ⟨by rfl, ?_⟩) hHeld ?_
      rotate_left
      · intro w hSw; (try dsimp only at hSw); (try go_split_ands); go_simp; (first | done | with_reducible rfl)
      (try simp only [Act.put, List.setIfInBounds_toArray, List.set_cons_zero, List.set_cons_succ])
      have hy8 := HA.out.below HH.out.1 HA.out.lt
      have h81 := HH.out.1.size
      have HBg := Lib.hid (H10.out.2.2.2 _ _ _ (by omega) HBA.out)
      refine wpAnyH_ready (rs := [9]) (by kernel_rfl) (by simp) ?_
      refine AllReadyH.cons (o := { dst := none, op := Op.store 39 (Operand.tmp 6) (Operand.tmp 14), type := 0, pos := "law.go:281", after := #[{ on := 8, ground := Ground.data }, { on := 6, ground := Ground.data }, { on := 4, ground := Ground.chain }, { on := 0, ground := Ground.phase }, { on := 1, ground := Ground.phase }, { on := 2, ground := Ground.phase }, { on := 3, ground := Ground.phase }, { on := 4, ground := Ground.phase }, { on := 5, ground := Ground.phase }, { on := 6, ground := Ground.phase }, { on := 7, ground := Ground.textOnly Departure.lateStores }, { on := 8, ground := Ground.phase }], guard := none }) rfl (fun K hK => ?_) AllReadyH.nil
      obtain ⟨z0, z1, z2, z3, z4, z5, z6, z7⟩ := ans_cells HBg.out
      go_simp
      have hs := HSp.out _ W.heap.size (.int .i64 q) (.string t) (.slice A6 n6 c6) (.slice A8 n8 c8) hHeld (by omega) (by omega) (by omega)
      refine hK.out _ _ hs (fun hHeld2 => ?_)
      clear hHeld
      have hHeld := hHeld2
      clear hHeld2 hK K
      (try simp only [Act.put, List.setIfInBounds_toArray, List.set_cons_zero, List.set_cons_succ])
      refine wpAnyH_take (i := 10) (oi := { dst := some 7, op := Op.assign (Operand.tmp 15), type := 30, pos := "law.go:281", after := #[{ on := 7, ground := Ground.data }, { on := 9, ground := Ground.chain }, { on := 0, ground := Ground.phase }, { on := 1, ground := Ground.phase }, { on := 2, ground := Ground.phase }, { on := 3, ground := Ground.phase }, { on := 4, ground := Ground.phase }, { on := 5, ground := Ground.phase }, { on := 6, ground := Ground.phase }, { on := 7, ground := Ground.phase }, { on := 8, ground := Ground.phase }, { on := 9, ground := Ground.phase }], guard := none }) (v := ?_) rfl (by kernel_rfl) (by kernel_rfl) (by kernel_rfl) (fun _ _ _ h => h) (Or.inl ⟨by rfl, ?_⟩) hHeld ?_
      rotate_left
      · intro w hSw; (try dsimp only at hSw); (try go_split_ands); go_simp; (first | done | with_reducible rfl)
      (try simp only [Act.put, List.setIfInBounds_toArray, List.set_cons_zero, List.set_cons_succ])
      refine wpAnyH_done (by kernel_rfl) ?_ _
      refine NoPanic.normal ?_
      go_wp2_with fail
      go_meet
      exact ⟨W.heap.size, q, t, A6, n6, c6, A8, n8, c8, rfl, Lib.hid (fin_put (cnt_keeps g) hsz H10.out.1 H10.out.2.1 H10.out.2.2.1 (H10.out.2.2.2 _ _ _ (by omega) hy8) HBg.out)⟩
  case rest =>
    obtain ⟨g6, q, t, A6, n6, c6, A8, n8, c8, rfl, HF⟩ := hcut
    obtain ⟨z0, z1, z2, z3, _, _, _, _⟩ := ans_cells HF.out.2.1
    obtain ⟨x0, x1, x2, x3, x4, x5, x6, x7⟩ := ans_cells HF.out.2.2.2.2.2
    clear p0 p1 p2 p3 p4
    go_wp2
    have hk := put4_kt (a := .int .i64 q) (b := .string t) (c := .slice A6 n6 c6) (d := .slice A8 n8 c8) HF.out.2.2.2.2.2
    exact bodyPost_ret (res16 _ _ (w.heap.size + 1) _ _ _ _ rfl (put4_blk HF.out.2.2.2.2.2)) rfl ⟨_, rfl, (keepers_call (cnt_keeps g) k).ry hk HF.out.2.2.1, cnt_keeps g _ _ _ hk HF.out.2.2.2.1, put4_grown HF.out.2.2.2.2.1 (by omega)⟩
end Go.Proofs.YthokfopeddaiiaaGreatDoor
