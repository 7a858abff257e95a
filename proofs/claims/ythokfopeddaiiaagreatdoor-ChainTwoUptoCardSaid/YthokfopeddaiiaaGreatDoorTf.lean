/-
  Contracts: ChainTwo's functions: the one that counts and answers.
-/
import Derived.Test.YthokfopeddaiiaaGreatDoorAh
import Derived.Test.YthokfopeddaiiaaGreatDoorTl
namespace Go.Proofs.YthokfopeddaiiaaGreatDoor
open Go.RowKit Go.Own Go.Own.Fn Go.Shelf
attribute [local go_sem] Oper.semAt_some
/-- A count lies in block g. -/
def cntS (g : Nat) : Stt Int := ⟨some g, fun s w => Blk w g 3 #[.int .i64 s]⟩
theorem cnt_keeps (g : Nat) : KeepsSt (cntS g) := fun s w w' hk h => hk g _ _ (by unfold notAns; decide) h
def cntF (code : Int) (x : CallV) (s : Int) : AnsV × Int := (⟨bits .and .i64 code 15, ⟨#[]⟩, x.hs, []⟩, IntKind.i64.wrap (s + 1))
theorem res14 (tmps : Array Value) (w : World) (g : Nat) (a b c d : Value) (ht : tmps[4]? = some (.pointer (some ⟨g, 0, none⟩))) (hb : Blk w g 39 #[a, b, c, d]) :
    (results Tryz.f14 tmps).run Tryz.prog w = .ok (.agg #[a, b, c, d]) w := by
  have c0 : w.cell? ⟨g, 0, none⟩ = some a := hb.cell 0
  have c1 : w.cell? ⟨g, 1, none⟩ = some b := hb.cell 1
  have c2 : w.cell? ⟨g, 2, none⟩ = some c := hb.cell 2
  have c3 : w.cell? ⟨g, 3, none⟩ = some d := hb.cell 3
  simp [results, Tryz.results14, go_sem, ht, c0, c1, c2, c3]
theorem Hw.apart {w : World} {base g : Nat} {v : Value} {l : List HdrV} {cs : Array Value} (h : Hw w base v l) (hb : Blk w g 3 cs) : v.ownBlock = none ∨ v.ownBlock ≠ some g := by
  rcases h.2 with ⟨rfl, _⟩ | ⟨b, cap, cur, rfl, _, hg, _⟩
  · exact .inl rfl
  · refine .inr fun e => ?_
    have e : b = g := by simpa [Value.ownBlock] using e
    subst e
    unfold Blk at hb
    rw [hg] at hb
    injection hb with hb
    injection hb with _ ht
    exact absurd ht (by decide)
abbrev cntV (p1 pc : Nat) : Value := .func (.func 14) #[] #[.pointer (some ⟨p1, 0, none⟩), .pointer (some ⟨pc, 0, none⟩)]
set_option maxHeartbeats 2000000 in
set_option maxRecDepth 100000 in
theorem cnt_fnc (g p1 pc : Nat) (code : Int) (k : Nat) (ex : Nat → Prop) (w0 : World) (hk : k ≤ 400) (h1 : Blk w0 p1 36 #[.pointer (some ⟨g, 0, none⟩)]) (h2 : Blk w0 pc 3 #[.int .i64 code]) (n1 : ¬ ex p1) (n2 : ¬ ex pc) (hne : p1 ≠ g ∧ pc ≠ g) :
    Fnc Tryz.prog (cntS g) (callL k) ex (cntV p1 pc) (cntF code) w0 := by
  refine ⟨14, #[], #[.pointer (some ⟨p1, 0, none⟩), .pointer (some ⟨pc, 0, none⟩)], rfl, enters_of Tryz.func14 (by kernel_rfl) rfl, fun w s xv x hw hs hxv => ?_⟩
  show Calls Tryz.prog 14 #[xv, .pointer (some ⟨p1, 0, none⟩), .pointer (some ⟨pc, 0, none⟩)] w _
  have hs : Blk w g 3 #[.int .i64 s] := hs
  have HP1 := Lib.hid (Blk.kx h1 hw n1)
  have HPc := Lib.hid (Blk.kx h2 hw n2)
  have HS := Lib.hid hs
  have HNe := Lib.hid hne
  obtain ⟨hv, bv, rfl, q1, q2, q3, q4⟩ := hxv
  obtain ⟨A1, c1, rfl, _⟩ := q1.form
  obtain ⟨A2, c2, rfl⟩ := owSlc q2
  have HX := Lib.hid (And.intro q1 (And.intro q3 hk))
  obtain ⟨m1, hm1⟩ : ∃ n, x.hs.length = n := ⟨_, rfl⟩
  obtain ⟨m2, hm2⟩ : ∃ n, x.body.length = n := ⟨_, rfl⟩
  rw [hm1] at HX ⊢
  rw [hm2]
  have HM := Lib.hid hm1
  obtain ⟨r1, r2, r3⟩ := room2 w (.string x.path) (.slice A1 m1 c1) (.slice A2 m2 c2)
  have HB := Lib.hid r1
  have HC := Lib.hid r2
  have HA := Lib.hid r3
  have lg := hs.lt
  have hres : (cntF code x s) = (⟨bits .and .i64 code 15, ⟨#[]⟩, x.hs, []⟩, IntKind.i64.wrap (s + 1)) := rfl
  rw [hres]
  generalize x.path = xp at HB HC HA ⊢
  clear h1 h2 hw n1 n2 hs hne q1 q2 q3 q4 hm1 hm2 r1 r2 r3 hk hres
  go_enter Tryz.func14, Tryz.ntmps14
  go_upto_region 1 with fail
  have hsz : w.heap.size + 1 < ((w.alloc (callB (.string xp) (.slice A1 m1 c1) (.slice A2 m2 c2))).alloc ansB0).heap.size := HA.out.lt
  generalize (w.alloc _).alloc _ = W at HB HC HA hsz ⊢
  have e1 : W.cell? ⟨p1, 0, none⟩ = some (.pointer (some ⟨g, 0, none⟩)) := (HP1.out.below HB.out HP1.out.lt).cell 0
  have e2 : W.cell? ⟨g, 0, none⟩ = some (.int .i64 s) := (HS.out.below HB.out HS.out.lt).cell 0
  have e3 := (HS.out.below HB.out HS.out.lt).frozen 0
  go_region_law (fail)
  all_goals
    have hdr : ∀ {b : Nat} {ty : TypeId} {cs : Array Value}, Blk (W.setCell ⟨g, 0, none⟩ (.int .i64 (IntKind.i64.wrap (s + 1)))) b ty cs → Blk (W.setCell ⟨g, 0, none⟩ (.int .i64 (IntKind.i64.wrap (s + 1)))).drew b ty cs := fun hb => hb.below (below_drewN (Below.refl _ _) 1) hb.lt
    have HG2 := Lib.hid (hdr ((HS.out.below HB.out HS.out.lt).put 0 (.int .i64 (IntKind.i64.wrap (s + 1)))))
    have HA2 := Lib.hid (hdr (HA.out.far (p := ⟨g, 0, none⟩) (by simp; omega) (.int .i64 (IntKind.i64.wrap (s + 1)))))
    have HC2 := Lib.hid (hdr (HC.out.far (p := ⟨g, 0, none⟩) (by simp; omega) (.int .i64 (IntKind.i64.wrap (s + 1)))))
    have HP2 := Lib.hid (hdr ((HPc.out.below HB.out HPc.out.lt).far (p := ⟨g, 0, none⟩) (by have := HNe.out.2; simpa using this) (.int .i64 (IntKind.i64.wrap (s + 1)))))
    have HGr := Lib.hid (show w.grownBy (W.setCell ⟨g, 0, none⟩ (.int .i64 (IntKind.i64.wrap (s + 1)))).drew (some g) from grown_trans (grown_setCell (grown_of_below HB.out (some g)) 0 _) (grown_of_below (below_drewN (Below.refl _ _) 1) _))
    have HX2 := Lib.hid (HX.out.1.grown HGr.out (HX.out.1.apart HS.out))
    clear e1 e2 e3 hdr
    generalize (W.setCell ⟨g, 0, none⟩ (.int .i64 (IntKind.i64.wrap (s + 1)))).drew = W2 at *
    have e4 : W2.cell? ⟨pc, 0, none⟩ = some (.int .i64 code) := HP2.out.cell 0
    have e5 : W2.cell? ⟨w.heap.size, 1, none⟩ = some (.slice A1 m1 c1) := HC2.out.cell 1
    obtain ⟨z0, z1, z2, z3, z4, z5, z6, z7⟩ := ans_cells HA2.out
    go_wp2
    have hk := put4_kt (a := .int .i64 (bits .and .i64 code 15)) (b := .string ⟨#[]⟩) (c := .slice A1 m1 c1) (d := .slice none 0 0) HA2.out
    refine bodyPost_ret (res14 _ _ (w.heap.size + 1) _ _ _ _ rfl (put4_blk HA2.out)) rfl ⟨_, rfl, ⟨.slice A1 m1 c1, .slice none 0 0, rfl, HX2.out.kt (by unfold notAns; decide) hk, ⟨rfl, .inl ⟨rfl, rfl⟩⟩, ?_, by simp⟩, ?_, put4_grown HGr.out (by omega)⟩
    · show x.hs.length + k ≤ 1000
      rw [HM.out]
      have := HX.out.2.1
      have := HX.out.2.2
      omega
    · exact cnt_keeps g _ _ _ hk HG2.out
end Go.Proofs.YthokfopeddaiiaaGreatDoor
