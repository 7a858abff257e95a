/-
  Contracts: (*Conn).opens; a stream's cell; over, ends.
  A stream's cell; contracts: (*Conn).over, ends.
  Contract: (*Conn).opened, given the contract of head.Open.
  Contract: (*Conn).opened of a list that opens a stream, given the contract of head.Open.
-/
import Derived.Test.YtkpppjhbmnfmkaaGreatDoorJi
import Derived.Test.YtkpppjhbmnfmkaaGreatDoorJg
import Derived.Deep.RegionHeld3
import Derived.Deep.DrawnRows
import Derived.Deep.CutBlock
import Derived.BigQuiet
import Derived.Test.YtkpppjhbmnfmkaaGreatDoorJj
set_option linter.unusedSimpArgs false
set_option linter.unusedVariables false
section
namespace Go.Proofs.YtkpppjhbmnfmkaaGreatDoor
open Go.RowKit Go.Own Go.Own.Im Go.Own.Cx Go.Own.Fr
attribute [local go_sem] Oper.semAt_some
/-- New blocks' owners. -/
def extT (ow : Nat → Tg) (n : Nat) (T : Nat → Tg) : Nat → Tg := fun j => if j < n then ow j else T j
theorem extT_old {ow : Nat → Tg} {n : Nat} {T : Nat → Tg} {j : Nat} (h : j < n) : extT ow n T j = ow j := if_pos h
theorem extT_new {ow : Nat → Tg} {n : Nat} {T : Nat → Tg} {j : Nat} (h : n ≤ j) : extT ow n T j = T j := if_neg (by omega)
/-- A stream's blocks, new. -/
def stT (id n : Nat) : Nat → Tg := fun j => if j = n + 2 then .st id 0 else if j = n then .st id 1 else if j = n + 1 then .st id 2 else if j = n + 4 then .st id 3 else if j = n + 3 then .st id 4 else .no
def stL (n : Nat) : SLay := { sb := n + 2, ib := n, ob := n + 1, pb := n + 4, rb := n + 3 }
/-- A stream is there. -/
theorem CN.opens {w w1 w2 : World} {ow : Nat → Tg} {b : Nat} {M : Cv} {L : Lay} (h : CN w ow b M L) (id : Nat) (hnew : ∀ s ∈ M.strs, s.id ≠ id) (hb : Below w.heap.size w w1) (hsz : w1.heap.size = w.heap.size + 5)
    (k0 : Blk w1 (w.heap.size + 2) 122 (stC { id := id, inw := M.window, outw := M.others } (stL w.heap.size)))
    (k1 : Blk w1 w.heap.size 177 #[.int .i64 M.window]) (k2 : Blk w1 (w.heap.size + 1) 177 #[.int .i64 M.others])
    (k3 : Blk w1 (w.heap.size + 4) 206 #[.slice (some ⟨w.heap.size + 3, 0, none⟩) 2 2]) (k4 : Blk w1 (w.heap.size + 3) 75 #[.pointer (some ⟨L.ob, 0, none⟩), .pointer (some ⟨w.heap.size + 1, 0, none⟩)])
    (hm : SM Tryz.prog 3 w2 L.mb (M.strs.map (·.id) ++ [id]) (fun i => if i = id then .pointer (some ⟨w.heap.size + 2, 0, none⟩) else sptr L i)) (hg : w1.grownBy w2 (some L.mb)) (hs2 : w2.heap.size = w1.heap.size) :
    ∃ ow' L', CN w2 ow' b { M with strs := M.strs ++ [{ id := id, inw := M.window, outw := M.others }] } L' ∧ Fr w ow w2 ow' ∧ (L'.s id).sb = w.heap.size + 2 ∧ (∀ j, w1.heap.size ≤ j → ow' j = .no) ∧ (∀ j, j < w.heap.size → ow' j = ow j) ∧ ∀ j, j < w.heap.size → ow j ≠ .map → w2.heap[j]? = w.heap[j]? := by
  have hmt := h.p.tm
  have hml := h.p.map.lt
  have hbl := h.blk.lt
  have keep : ∀ g, g < w.heap.size → g ≠ L.mb → w2.heap[g]? = w.heap[g]? := fun g hlt hne => (hg.block g (by omega) (fun e => hne (by injection e))).trans (hb.block g hlt)
  have k : Kp (fun x => x = .map) w ow w2 (extT ow w.heap.size (stT id w.heap.size)) :=
    ⟨by omega, fun g hn ht hlt => ⟨keep g hlt (fun e => ht (by rw [e]; exact hmt)), extT_old hlt⟩⟩
  have nw : ∀ {g : Nat} {t : TypeId} {cs : Array Value}, Blk w1 g t cs → w.heap.size ≤ g → Blk w2 g t cs := fun hk hle => hk.grown hg (fun e => by injection e with e; omega)
  have tg : ∀ (j : Nat) (t : Tg), stT id w.heap.size j = t → w.heap.size ≤ j → extT ow w.heap.size (stT id w.heap.size) j = t := fun j t e hle => (extT_new hle).trans e
  have hbk := h.blkK k (by decide)
  have hcp : CP w2 (extT ow w.heap.size (stT id w.heap.size)) M.fed M.out M.evs M.inw M.outw (M.strs ++ [{ id := id, inw := M.window, outw := M.others }]) M.list { L with s := fun i => if i = id then stL w.heap.size else L.s i } := by
    refine ⟨h.p.fedK k (by decide), h.p.outK k (by decide), h.p.evK k (by decide) (by decide), (h.p.inwK k (by decide)).1, (h.p.inwK k (by decide)).2, (h.p.outwK k (by decide)).1, (h.p.outwK k (by decide)).2, ?_, (extT_old hml).trans hmt, ?_, h.p.lstK k (by decide) (by decide), h.p.encK k (by decide), h.p.decK k (by decide)⟩
    · rw [List.map_append]
      refine hm.same fun i _ => ?_
      by_cases e : i = id
      · simp [sptr, e, stL]
      · simp [sptr, e]
    · intro s hs
      rcases List.mem_append.1 hs with hs | hs
      · have hne := hnew s hs
        have := h.p.strK k s hs (by intro j; simp)
        show SN w2 _ L.ob (if s.id = id then stL w.heap.size else L.s s.id) s
        rw [if_neg hne]
        exact this
      · obtain rfl : s = { id := id, inw := M.window, outw := M.others } := by simpa using hs
        show SN w2 _ L.ob (if id = id then stL w.heap.size else L.s id) _
        rw [if_pos rfl]
        exact ⟨nw k0 (by simp [stL]), tg _ _ (by simp [stT, stL]) (by simp [stL]), nw k1 (by simp [stL]), tg _ _ (by simp [stT, stL]) (by simp [stL]), nw k2 (by simp [stL]), tg _ _ (by simp [stT, stL]) (by simp [stL]), nw k3 (by simp [stL]), tg _ _ (by simp [stT, stL]) (by simp [stL]),
          nw k4 (by simp [stL]), tg _ _ (by simp [stT, stL]) (by simp [stL]), Oz.nil _ _⟩
  have hno : ∀ j, w1.heap.size ≤ j → extT ow w.heap.size (stT id w.heap.size) j = .no := fun j hj => (extT_new (by omega)).trans (by unfold stT; rw [if_neg (by omega), if_neg (by omega), if_neg (by omega), if_neg (by omega), if_neg (by omega)])
  refine ⟨_, { L with s := fun i => if i = id then stL w.heap.size else L.s i }, ⟨hbk.1, hbk.2, hcp, fun g hg2 => hno g (by omega)⟩, ⟨hg.os.trans hb.os, hg.tape.trans hb.tape, hg.output.trans hb.output, by omega, fun g hlt hn => keep g hlt (fun e => by rw [e, hmt] at hn; cases hn), fun g hlt hn => (extT_old hlt).trans hn⟩, by simp [stL], hno, fun j hj => extT_old hj, fun j hj hn => keep j hj (fun e => hn (by rw [e]; exact hmt))⟩
set_option maxHeartbeats 8000000 in
set_option maxRecDepth 100000 in
/-- A stream is made be there. -/
theorem opens_any (w : World) (ow : Nat → Tg) (b : Nat) (M : Cv) (L : Lay) (id : Nat) (h : CN w ow b M L) (hnew : ∀ s ∈ M.strs, s.id ≠ id) (hid : id ≤ 2147483647) (h0 : 0 ≤ M.window ∧ M.window ≤ 2147483647) (h1 : 0 ≤ M.others ∧ M.others ≤ 2147483647) (hn : M.strs.length ≤ 1000000) :
    Calls Tryz.prog 59 #[.pointer (some ⟨b, 0, none⟩), .int .i64 (id : Nat)] w fun e w' => e = .returned (.pointer (some ⟨w.heap.size + 2, 0, none⟩)) ∧ ∃ ow' L', CN w' ow' b { M with strs := M.strs ++ [{ id := id, inw := M.window, outw := M.others }] } L' ∧ Fr w ow w' ow' ∧ (L'.s id).sb = w.heap.size + 2 ∧ (∀ j, w'.heap.size ≤ j → ow' j = .no) ∧ (∀ j, j < w.heap.size → ow' j = ow j) ∧ ∀ j, j < w.heap.size → ow j ≠ .map → w'.heap[j]? = w.heap[j]? := by
  have HC := Lib.hid h
  have HNew := Lib.hid hnew
  have HSe := Lib.hid (fun W (hb : Below w.heap.size w W) => (show W.cell? ⟨b, 10, none⟩ = some (.int .i64 M.window) ∧ W.cell? ⟨b, 11, none⟩ = some (.int .i64 M.others) from ⟨(h.below hb).blk.cell 10, (h.below hb).blk.cell 11⟩))
  have HA1 := Lib.hid (fun W (hb : Below w.heap.size w W) (hz : W.heap.size = w.heap.size) => (show Calls Tryz.prog 35 #[.int .i64 M.window] W fun e w' => e = .returned (.pointer (some ⟨w.heap.size, 0, none⟩)) ∧ Blk w' w.heap.size 177 #[.int .i64 M.window] ∧ Below w.heap.size w w' ∧ w'.heap.size = w.heap.size + 1 from by
    refine (window_any M.window W h0.1 h0.2).mono ?_
    rintro e w' ⟨rfl, rfl⟩
    rw [← hz]
    exact ⟨rfl, Blk.new W _ _, by rw [hz]; exact hb.alloc (by omega) _, by simp⟩))
  have HA2 := Lib.hid (fun W (hb : Below w.heap.size w W) (hk : Blk W w.heap.size 177 #[.int .i64 M.window]) (hz : W.heap.size = w.heap.size + 1) => (show Calls Tryz.prog 35 #[.int .i64 M.others] W fun e w' => e = .returned (.pointer (some ⟨w.heap.size + 1, 0, none⟩)) ∧ Blk w' w.heap.size 177 #[.int .i64 M.window] ∧ Blk w' (w.heap.size + 1) 177 #[.int .i64 M.others] ∧ Below w.heap.size w w' ∧ w'.heap.size = w.heap.size + 2 from by
    refine (window_any M.others W h1.1 h1.2).mono ?_
    rintro e w' ⟨rfl, rfl⟩
    rw [← hz]
    exact ⟨rfl, hk.alloc _, Blk.new W _ _, hb.alloc (by omega) _, by simp; omega⟩))
  have c9 : w.cell? ⟨b, 10, none⟩ = some (.int .i64 M.window) := h.blk.cell 10
  have c10 : w.cell? ⟨b, 11, none⟩ = some (.int .i64 M.others) := h.blk.cell 11
  have HS0 := Lib.hid (show w.cell? ⟨b, 10, none⟩ = some (.int .i64 M.window) ∧ w.cell? ⟨b, 11, none⟩ = some (.int .i64 M.others) from ⟨c9, c10⟩)
  have HS0d := Lib.hid (show w.drew.cell? ⟨b, 10, none⟩ = some (.int .i64 M.window) ∧ w.drew.cell? ⟨b, 11, none⟩ = some (.int .i64 M.others) from ⟨c9, c10⟩)
  have HA3 := Lib.hid (fun W (hb : Below w.heap.size w W) (hk : Blk W (w.heap.size + 1) 177 #[.int .i64 M.others]) (hz : W.heap.size = w.heap.size + 3) => (show Calls Tryz.prog 95 #[.pointer (some ⟨L.ob, 0, none⟩), .pointer (some ⟨w.heap.size + 1, 0, none⟩)] W fun e w' => e = .returned (.pointer (some ⟨w.heap.size + 4, 0, none⟩)) ∧ Blk w' (w.heap.size + 3) 75 #[.pointer (some ⟨L.ob, 0, none⟩), .pointer (some ⟨w.heap.size + 1, 0, none⟩)] ∧ Blk w' (w.heap.size + 4) 206 #[.slice (some ⟨w.heap.size + 3, 0, none⟩) 2 2] ∧ Below W.heap.size W w' ∧ w'.heap.size = w.heap.size + 5 from by
    have hlt := h.p.outw.lt
    refine (both_any L.ob (w.heap.size + 1) _ _ W (by omega) (h.p.outw.below hb hlt) hk).mono ?_
    rintro e w' ⟨rfl, rfl⟩
    have hz1 : (W.alloc (.cells #[.pointer (some ⟨L.ob, 0, none⟩), .pointer (some ⟨w.heap.size + 1, 0, none⟩)] 75)).heap.size = w.heap.size + 4 := by simp; omega
    have b1 := Blk.new W 75 #[.pointer (some ⟨L.ob, 0, none⟩), .pointer (some ⟨w.heap.size + 1, 0, none⟩)]
    have b2 := Blk.new (W.alloc (.cells #[.pointer (some ⟨L.ob, 0, none⟩), .pointer (some ⟨w.heap.size + 1, 0, none⟩)] 75)) 206 #[.slice (some ⟨W.heap.size, 0, none⟩) 2 2]
    have hbb := ((Below.refl W.heap.size W).alloc (Nat.le_refl _) (.cells #[.pointer (some ⟨L.ob, 0, none⟩), .pointer (some ⟨w.heap.size + 1, 0, none⟩)] 75)).alloc (by simp) (.cells #[.slice (some ⟨W.heap.size, 0, none⟩) 2 2] 206)
    rw [hz1] at b2
    rw [hz] at b1 b2
    refine ⟨by rw [hz], b1.alloc _, ?_, hbb, by simp; omega⟩
    rw [hz]
    exact b2))
  have HSg := Lib.hid (fun W (hb : Below w.heap.size w W) => (show W.cell? ⟨b, 9, none⟩ = some (.pointer (some ⟨L.ob, 0, none⟩)) from (h.below hb).blk.cell 9))
  have HSm := Lib.hid (fun W (hb : Below w.heap.size w W) => (show W.cell? ⟨b, 15, none⟩ = some (.map (some L.mb)) ∧ SM Tryz.prog 3 W L.mb (M.strs.map (·.id)) (sptr L) from ⟨(h.below hb).blk.cell 15, (h.below hb).p.map⟩))
  have hbl := h.blk.lt
  clear h hnew h0 h1 c9 c10
  generalize hx : M.window = x at *
  generalize hy : M.others = y at *
  go_enter Tryz.func59, Tryz.ntmps59
  go_upto_region 1 with fail
  go_region_held3 (fun W' => W'.cell? ⟨b, 10, none⟩ = some (.int .i64 x) ∧ W'.cell? ⟨b, 11, none⟩ = some (.int .i64 y)) (first | with_reducible exact HS0.out | with_reducible exact HS0d.out | with_reducible exact HS1.out | with_reducible exact HS1d.out | with_reducible exact HS2.out | with_reducible exact HS2d.out | with_reducible exact HS3.out _) (first
    | (go_at_call 35
       with_reducible refine Calls.mono (HA2.out _ ?_ ?_ ?_) ?_
       · first | exact HB1.out | exact below_drewN HB1.out 1
       · exact HK1.out
       · exact HZ1.out
       rintro e w2 ⟨rfl, k2, k3, hb2, hz2⟩
       have HB2 := Lib.hid hb2
       have HK2 := Lib.hid k2
       have HK3 := Lib.hid k3
       have HZ2 := Lib.hid hz2
       have HS2 := Lib.hid (HSe.out w2 hb2)
       have HS2d := Lib.hid (show w2.drew.cell? ⟨b, 10, none⟩ = some (.int .i64 x) ∧ w2.drew.cell? ⟨b, 11, none⟩ = some (.int .i64 y) from HS2.out)
       have HS3 := Lib.hid (fun o => HSe.out (w2.alloc o) (hb2.alloc hb2.size o))
       clear k2 k3 hb2 hz2)
    | (go_at_call 35
       with_reducible refine Calls.mono (HA1.out _ ?_ ?_) ?_
       · exact below_drewN (Below.refl _ _) 1
       · rfl
       rintro e w1 ⟨rfl, k1, hb1, hz1⟩
       have HB1 := Lib.hid hb1
       have HK1 := Lib.hid k1
       have HZ1 := Lib.hid hz1
       have HS1 := Lib.hid (HSe.out w1 hb1)
       have HS1d := Lib.hid (show w1.drew.cell? ⟨b, 10, none⟩ = some (.int .i64 x) ∧ w1.drew.cell? ⟨b, 11, none⟩ = some (.int .i64 y) from HS1.out)
       clear k1 hb1 hz1)
    | fail)
  all_goals
    rw [HZ2.out]
    have HK4 := Blk.new w2 122 #[.int .i64 (id : Nat), .int .i64 0, .int .i64 0, .pointer (some ⟨w.heap.size, 0, none⟩), .pointer (some ⟨w.heap.size + 1, 0, none⟩), .pointer none, .slice none 0 0, .bool false, .slice none 0 0, .int .i64 0]
    rw [HZ2.out] at HK4
    have HK4 := Lib.hid HK4
    have HB3 := Lib.hid (HB2.out.alloc HB2.out.size (.cells #[.int .i64 (id : Nat), .int .i64 0, .int .i64 0, .pointer (some ⟨w.heap.size, 0, none⟩), .pointer (some ⟨w.heap.size + 1, 0, none⟩), .pointer none, .slice none 0 0, .bool false, .slice none 0 0, .int .i64 0] 122))
    have HKa := Lib.hid (HK2.out.alloc (.cells #[.int .i64 (id : Nat), .int .i64 0, .int .i64 0, .pointer (some ⟨w.heap.size, 0, none⟩), .pointer (some ⟨w.heap.size + 1, 0, none⟩), .pointer none, .slice none 0 0, .bool false, .slice none 0 0, .int .i64 0] 122))
    have HKb := Lib.hid (HK3.out.alloc (.cells #[.int .i64 (id : Nat), .int .i64 0, .int .i64 0, .pointer (some ⟨w.heap.size, 0, none⟩), .pointer (some ⟨w.heap.size + 1, 0, none⟩), .pointer none, .slice none 0 0, .bool false, .slice none 0 0, .int .i64 0] 122))
    have HZ3 := Lib.hid (show (w2.alloc (.cells #[.int .i64 (id : Nat), .int .i64 0, .int .i64 0, .pointer (some ⟨w.heap.size, 0, none⟩), .pointer (some ⟨w.heap.size + 1, 0, none⟩), .pointer none, .slice none 0 0, .bool false, .slice none 0 0, .int .i64 0] 122)).heap.size = w.heap.size + 3 by simp [HZ2.out])
    generalize w2.alloc (.cells #[.int .i64 (id : Nat), .int .i64 0, .int .i64 0, .pointer (some ⟨w.heap.size, 0, none⟩), .pointer (some ⟨w.heap.size + 1, 0, none⟩), .pointer none, .slice none 0 0, .bool false, .slice none 0 0, .int .i64 0] 122) = W3 at *
    have HT0 := Lib.hid (show W3.cell? ⟨b, 9, none⟩ = some (.pointer (some ⟨L.ob, 0, none⟩)) ∧ W3.cell? ⟨w.heap.size + 2, 4, none⟩ = some (.pointer (some ⟨w.heap.size + 1, 0, none⟩)) from ⟨HSg.out W3 HB3.out, HK4.out.cell 4⟩)
    have HT0d := Lib.hid (show W3.drew.cell? ⟨b, 9, none⟩ = some (.pointer (some ⟨L.ob, 0, none⟩)) ∧ W3.drew.cell? ⟨w.heap.size + 2, 4, none⟩ = some (.pointer (some ⟨w.heap.size + 1, 0, none⟩)) from HT0.out)
    go_upto_region 2 with fail
    go_region_held3 (fun W' => W'.cell? ⟨b, 9, none⟩ = some (.pointer (some ⟨L.ob, 0, none⟩)) ∧ W'.cell? ⟨w.heap.size + 2, 4, none⟩ = some (.pointer (some ⟨w.heap.size + 1, 0, none⟩))) (first | with_reducible exact HT0.out | with_reducible exact HT0d.out | with_reducible exact HT4.out | with_reducible exact HT4d.out | with_reducible exact HT5.out _) (first
      | (go_at_call 95
         with_reducible refine Calls.mono (HA3.out _ ?_ ?_ ?_) ?_
         · exact below_drewN HB3.out 1
         · exact HKb.out
         · exact HZ3.out
         rintro e w4 ⟨rfl, r1, r2, hb4, hz4⟩
         have hb4' : Below W3.heap.size W3 w4 := below_of_drew hb4
         have HR1 := Lib.hid r1
         have HR2 := Lib.hid r2
         have HB4 := Lib.hid (HB3.out.trans (hb4'.mono HB3.out.size))
         have HZ4 := Lib.hid hz4
         have HKa4 := Lib.hid (HKa.out.below hb4' HKa.out.lt)
         have HKb4 := Lib.hid (HKb.out.below hb4' HKb.out.lt)
         have HK44 := Lib.hid (HK4.out.below hb4' HK4.out.lt)
         have x5 : w4.cell? ⟨w.heap.size + 2, 5, none⟩ = some (.pointer none) := HK44.out.cell 5
         have f5 := HK44.out.frozen 5
         have HT4 := Lib.hid (show w4.cell? ⟨b, 9, none⟩ = some (.pointer (some ⟨L.ob, 0, none⟩)) ∧ w4.cell? ⟨w.heap.size + 2, 4, none⟩ = some (.pointer (some ⟨w.heap.size + 1, 0, none⟩)) from ⟨HSg.out w4 HB4.out, HK44.out.cell 4⟩)
         have HT4d := Lib.hid (show w4.drew.cell? ⟨b, 9, none⟩ = some (.pointer (some ⟨L.ob, 0, none⟩)) ∧ w4.drew.cell? ⟨w.heap.size + 2, 4, none⟩ = some (.pointer (some ⟨w.heap.size + 1, 0, none⟩)) from HT4.out)
         have HT5 := Lib.hid (fun v => (show (w4.setCell ⟨w.heap.size + 2, 5, none⟩ v).cell? ⟨b, 9, none⟩ = some (.pointer (some ⟨L.ob, 0, none⟩)) ∧ (w4.setCell ⟨w.heap.size + 2, 5, none⟩ v).cell? ⟨w.heap.size + 2, 4, none⟩ = some (.pointer (some ⟨w.heap.size + 1, 0, none⟩)) from
           ⟨HSg.out _ (HB4.out.setCell (p := ⟨w.heap.size + 2, 5, none⟩) (by simp) _), (HK44.out.put 5 v).cell 4⟩))
         clear r1 r2 hb4 hb4' hz4)
      | fail)
  all_goals
    have HB5 := Lib.hid (HB4.out.setCell (p := ⟨w.heap.size + 2, 5, none⟩) (by simp) (.pointer (some ⟨w.heap.size + 4, 0, none⟩)))
    have HZ5 := Lib.hid (show (w4.setCell ⟨w.heap.size + 2, 5, none⟩ (.pointer (some ⟨w.heap.size + 4, 0, none⟩))).heap.size = w.heap.size + 5 by simp [World.setCell, HZ4.out])
    have N0 := Lib.hid (HK44.out.put 5 (.pointer (some ⟨w.heap.size + 4, 0, none⟩)))
    have N1 := Lib.hid (HKa4.out.far (p := ⟨w.heap.size + 2, 5, none⟩) (by simp) (.pointer (some ⟨w.heap.size + 4, 0, none⟩)))
    have N2 := Lib.hid (HKb4.out.far (p := ⟨w.heap.size + 2, 5, none⟩) (by simp) (.pointer (some ⟨w.heap.size + 4, 0, none⟩)))
    have N3 := Lib.hid (HR2.out.far (p := ⟨w.heap.size + 2, 5, none⟩) (by simp) (.pointer (some ⟨w.heap.size + 4, 0, none⟩)))
    have N4 := Lib.hid (HR1.out.far (p := ⟨w.heap.size + 2, 5, none⟩) (by simp) (.pointer (some ⟨w.heap.size + 4, 0, none⟩)))
    generalize w4.setCell ⟨w.heap.size + 2, 5, none⟩ (.pointer (some ⟨w.heap.size + 4, 0, none⟩)) = W5 at *
    obtain ⟨c15, hsm⟩ := HSm.out W5 HB5.out
    obtain ⟨w6, hrun, hm6, hg6, hz6⟩ := hsm.put Tryz.underlying74 Tryz.underlying3 (by rw [List.length_map]; simp only [maxLen]; omega) (k := id) (by simp [Lit.wf, IntKind.min, IntKind.max, IntKind.bits, IntKind.signed]; omega) (by
      intro hm
      obtain ⟨s, hs, e⟩ := List.mem_map.1 hm
      exact HNew.out s hs e) (.pointer (some ⟨w.heap.size + 2, 0, none⟩))
    have HM6 := Lib.hid hm6
    have HG6 := Lib.hid hg6
    have HZ6 := Lib.hid hz6
    clear hsm hm6 hg6 hz6 x5 f5
    go_wp2
    go_ret
    have hfin := HC.out.opens id HNew.out HB5.out HZ5.out (w2 := w6) N0.out (hx ▸ N1.out) (hy ▸ N2.out) N3.out N4.out HM6.out HG6.out HZ6.out
    obtain ⟨ow', L', r1, r2, r3, r4, r5, r6⟩ := hfin
    rw [hx, hy] at r1
    exact ⟨rfl, ow', L', r1, r2, r3, fun j hj => r4 j (by rw [← HZ6.out]; exact hj), r5, r6⟩
end Go.Proofs.YtkpppjhbmnfmkaaGreatDoor
end

section
namespace Go.Proofs.YtkpppjhbmnfmkaaGreatDoor
open Go.RowKit Go.Own Go.Own.Im Go.Own.Cx Go.Own.Fr
theorem inj_of_nodup : ∀ {l : List Sv}, (l.map (·.id)).Nodup → ∀ {x y : Sv}, x ∈ l → y ∈ l → x.id = y.id → x = y
  | [], _, _, _, h, _, _ => by cases h
  | a :: l, h, x, y, hx, hy, e => by
    rw [List.map_cons, List.nodup_cons] at h
    have key : ∀ z : Sv, z ∈ l → z.id ≠ a.id := fun z hz ez => h.1 (ez ▸ List.mem_map.2 ⟨z, hz, rfl⟩)
    rcases List.mem_cons.1 hx with hx' | hx'
    · rcases List.mem_cons.1 hy with hy' | hy'
      · rw [hx', hy']
      · exact absurd (by rw [← e, hx']) (key y hy')
    · rcases List.mem_cons.1 hy with hy' | hy'
      · exact absurd (by rw [e, hy']) (key x hx')
      · exact inj_of_nodup h.2 hx' hy' e
/-- A stream is changed. -/
def updS (l : List Sv) (s : Sv) : List Sv := l.map fun x => if x.id = s.id then s else x
theorem updS_ids (l : List Sv) (s : Sv) : (updS l s).map (·.id) = l.map (·.id) := by
  unfold updS
  rw [List.map_map]
  apply List.map_congr_left
  intro x _
  simp only [Function.comp]
  split
  · rename_i h; exact h.symm
  · rfl
theorem updS_last {l : List Sv} {s s' : Sv} (h : ∀ x ∈ l, x.id ≠ s'.id) (e : s.id = s'.id) : updS (l ++ [s]) s' = l ++ [s'] := by
  unfold updS
  rw [List.map_append]
  congr 1
  · have : (l.map fun x => if x.id = s'.id then s' else x) = l.map id := List.map_congr_left fun x hx => by simp [h x hx]
    rw [this, List.map_id]
  · simp [e]
theorem CN.strcell {w : World} {ow : Nat → Tg} {b : Nat} {M : Cv} {L : Lay} (h : CN w ow b M L) {s s' : Sv} (hs : s ∈ M.strs) (hid : s'.id = s.id) (i : Nat) (v : Value) (hc : (stC s (L.s s.id)).setIfInBounds i v = stC s' (L.s s.id)) (h1 : s'.inw = s.inw) (h2 : s'.outw = s.outw) (h3 : s'.waits = s.waits) :
    CN (w.setCell ⟨(L.s s.id).sb, i, none⟩ v) ow b { M with strs := updS M.strs s' } L ∧ Fr w ow (w.setCell ⟨(L.s s.id).sb, i, none⟩ v) ow := by
  have hS := h.p.strs s hs
  have hsz : (w.setCell ⟨(L.s s.id).sb, i, none⟩ v).heap.size = w.heap.size := by simp [World.setCell]
  have k : Kp (fun x => x = .st s.id 0) w ow (w.setCell ⟨(L.s s.id).sb, i, none⟩ v) ow :=
    ⟨by omega, fun g _ ht _ => ⟨Below.heap_setCell w _ _ g (fun e => ht (by rw [e]; exact hS.tb)), rfl⟩⟩
  have hbk := h.blkK k (by simp)
  have hst : ∀ x ∈ updS M.strs s', SN (w.setCell ⟨(L.s s.id).sb, i, none⟩ v) ow L.ob (L.s x.id) x := by
    intro x hx
    obtain ⟨y, hy, rfl⟩ := List.mem_map.1 hx
    by_cases e : y.id = s'.id
    · rw [if_pos e, hid]
      refine ⟨hc ▸ hS.blk.put i v, hid.symm ▸ hS.tb, ?_, ?_, ?_, ?_, ?_, ?_, ?_, ?_, ?_⟩
      · rw [h1]; exact (k.at_ (.st s.id 1) (by simp) (by simp) _ hS.ti hS.inw.lt).1.trans hS.inw
      · rw [hid]; exact hS.ti
      · rw [h2]; exact (k.at_ (.st s.id 2) (by simp) (by simp) _ hS.to hS.outw.lt).1.trans hS.outw
      · rw [hid]; exact hS.to
      · exact (k.at_ (.st s.id 3) (by simp) (by simp) _ hS.tp hS.pair.lt).1.trans hS.pair
      · rw [hid]; exact hS.tp
      · exact (k.at_ (.st s.id 4) (by simp) (by simp) _ hS.tr hS.row.lt).1.trans hS.row
      · rw [hid]; exact hS.tr
      · rw [h3, hid]
        exact hS.waits.turn (fun g hlt ho => k.at_ (.st s.id 5) (by simp) (by simp) g ho hlt) k.size
    · rw [if_neg e]
      exact h.p.strK k y hy (by intro j; simp; intro e2; exact absurd (e2.trans hid.symm) e)
  refine ⟨⟨hbk.1, hbk.2, ⟨h.p.fedK k (by simp), h.p.outK k (by simp), h.p.evK k (by simp) (by simp), (h.p.inwK k (by simp)).1, (h.p.inwK k (by simp)).2, (h.p.outwK k (by simp)).1, (h.p.outwK k (by simp)).2, ?_, (h.p.mapK k (by simp)).2, hst, h.p.lstK k (by simp) (by simp), h.p.encK k (by simp), h.p.decK k (by simp)⟩, fun g hg => h.new g (by omega)⟩, ?_⟩
  · show SM _ _ _ _ ((updS M.strs s').map (·.id)) _
    rw [updS_ids]
    exact (h.p.mapK k (by simp)).1
  · exact Fr.grown (grown_setCell (World.grownBy.refl w (some (L.s s.id).sb)) i v) fun g e => by injection e with e; subst e; rw [hS.tb]; simp
set_option maxHeartbeats 1000000 in
theorem over_no (cv : Value) (w : World) (ow : Nat → Tg) (co : Nat) (l : SLay) (s : Sv) (h : SN w ow co l s) (hn : s.own ≠ 3 ∨ s.other ≠ 3) :
    Calls Tryz.prog 97 #[cv, .pointer (some ⟨l.sb, 0, none⟩)] w fun e w' => e = .returned (.tuple #[]) ∧ w' = w := by
  have d1 : w.cell? ⟨l.sb, 1, none⟩ = some (.int .i64 (s.own : Nat)) := h.blk.cell 1
  have d2 : w.cell? ⟨l.sb, 2, none⟩ = some (.int .i64 (s.other : Nat)) := h.blk.cell 2
  clear h
  generalize s.own = x at *
  generalize s.other = y at *
  generalize l.sb = sb at *
  by_cases hx : x = 3
  · have hy : ¬ (y : Int) = 3 := by omega
    have hy' : ((y : Int) == 3) = false := by simpa using hy
    subst hx
    clear hn
    go_enter Tryz.func97, Tryz.ntmps97
    go_wp2
    go_end0
    exact ⟨rfl, rfl⟩
  · have hx1 : ¬ (x : Int) = 3 := by omega
    have hx' : ((x : Int) == 3) = false := by simpa using hx1
    clear hn
    go_enter Tryz.func97, Tryz.ntmps97
    go_wp2
    go_end0
    exact ⟨rfl, rfl⟩
def endS (s : Sv) (fin : Bool) : Sv := if fin then { s with other := 3 } else s
set_option maxHeartbeats 1000000 in
/-- The other side of a stream ends, or not; the own side has not ended. -/
theorem ends_any (w : World) (ow : Nat → Tg) (b : Nat) (M : Cv) (L : Lay) (s : Sv) (fin : Bool) (h : CN w ow b M L) (hs : s ∈ M.strs) (ho : s.own ≠ 3) (hu : (M.strs.map (·.id)).Nodup) :
    Calls Tryz.prog 193 #[.pointer (some ⟨b, 0, none⟩), .pointer (some ⟨(L.s s.id).sb, 0, none⟩), .bool fin] w (CPost w ow b { M with strs := updS M.strs (endS s fin) } (.tuple #[])) := by
  cases fin with
  | false =>
    have e : updS M.strs (endS s false) = M.strs := by
      unfold updS endS
      have : (M.strs.map fun x => if x.id = (if false = true then { s with other := 3 } else s).id then (if false = true then { s with other := 3 } else s) else x) = M.strs.map id := List.map_congr_left fun x hx => by
        simp only [Bool.false_eq_true, if_false, id]
        split
        · rename_i e
          exact (inj_of_nodup hu hx hs e).symm
        · rfl
      rw [this, List.map_id]
    rw [e]
    go_enter Tryz.func193, Tryz.ntmps193
    go_wp2
    go_end0
    exact ⟨ow, L, rfl, h, Fr.refl w ow⟩
  | true =>
    have hS := h.p.strs s hs
    have hk := h.strcell (s' := { s with other := 3 }) hs rfl 2 (.int .i64 3) rfl rfl rfl rfl
    have HK := Lib.hid hk
    have d2 : w.cell? ⟨(L.s s.id).sb, 2, none⟩ = some (.int .i64 (s.other : Nat)) := hS.blk.cell 2
    have f2 := hS.blk.frozen 2
    have hmem : ({ s with other := 3 } : Sv) ∈ updS M.strs { s with other := 3 } := List.mem_map.2 ⟨s, hs, by simp⟩
    have HO := Lib.hid (fun cv => over_no cv _ ow L.ob (L.s s.id) { s with other := 3 } (hk.1.p.strs _ hmem) (.inl ho))
    clear h hk hS hmem
    go_enter Tryz.func193, Tryz.ntmps193
    go_wp2_with (first
      | (go_at_call 97
         with_reducible refine Calls.mono (HO.out _) ?_
         rintro e w1 ⟨rfl, hw⟩
         subst w1)
      | fail)
    go_end0
    exact ⟨ow, L, rfl, HK.out.1, HK.out.2⟩
end Go.Proofs.YtkpppjhbmnfmkaaGreatDoor
end

section
namespace Go.Proofs.YtkpppjhbmnfmkaaGreatDoor
open Go.RowKit Go.Own Go.Own.Im Go.Own.Cx Go.Own.Fr
attribute [local go_sem] Oper.semAt_some
theorem infC_reset (s c : Nat) : infC { typ := 3, stream := s, code := c } (.slice none 0 0) (.slice none 0 0) = #[.int .i64 3, .int .i64 0, .int .i64 (s : Nat), .bool false, .bool false, .bool false, .bool false, .bool false, .bool false, .int .i64 0, .int .i64 0, .int .i64 0, .int .i64 (c : Nat), .int .i64 0, .int .i64 0, .int .i64 0, .slice none 0 0, .slice none 0 0] := rfl
theorem flg_reset (s c : Nat) : flg { typ := 3, stream := s, code := c } = 0 := by simp [flg]
theorem pay_reset (s c : Nat) : pay { typ := 3, stream := s, code := c } = be c 4 := by simp [pay]
theorem CN.last_ {w : World} {ow : Nat → Tg} {b : Nat} {M : Cv} {L : Lay} (h : CN w ow b M L) (id : Nat) : CN (w.setCell ⟨b, 14, none⟩ (.int .i64 (id : Nat))) ow b { M with last := id } L ∧ Fr w ow (w.setCell ⟨b, 14, none⟩ (.int .i64 (id : Nat))) ow :=
  h.cell (M' := { M with last := id }) (L' := L) 14 _ rfl h.p
set_option maxHeartbeats 4000000 in
set_option maxRecDepth 100000 in
/-- No more streams are let be: refused. -/
theorem opened_many (w : World) (ow : Nat → Tg) (b : Nat) (M : Cv) (L : Lay) (id : Nat) (lv : Value) (fin : Bool) (h : CN w ow b M L) (hid : id ≠ 0 ∧ id ≤ 2147483647) (hm : M.cs ≤ (M.strs.length : Int)) (ho : M.out.length ≤ 1000000000) :
    Calls Tryz.prog 196 #[.pointer (some ⟨b, 0, none⟩), .int .i64 (id : Nat), lv, .bool fin] w (CPost w ow b { M with last := id, out := M.out ++ frameB 3 0 id (be 7 4) } (.tuple #[])) := by
  have hl := h.last_ id
  have HC1 := Lib.hid hl.1
  have HF1 := Lib.hid hl.2
  have c14 : w.cell? ⟨b, 14, none⟩ = some (.int .i64 (M.last : Nat)) := h.blk.cell 14
  have f14 := h.blk.frozen 14
  have hlen := fun ty (n : Nat) => (hl.1.drewN n).p.map.len Tryz.underlying74 ty
  simp only [List.length_map] at hlen
  have HP := fun n => put_any _ ow b _ L _ _ (hl.1.drewN n) rfl (bld_reset _ id 7 hid.1 hid.2 (by omega)) ho
  rw [infC_reset, flg_reset, pay_reset] at HP
  have HP := Lib.hid HP
  have k15 : (w.setCell ⟨b, 14, none⟩ (.int .i64 (id : Nat))).cell? ⟨b, 15, none⟩ = some (.map (some L.mb)) := hl.1.blk.cell 15
  have k2 : (w.setCell ⟨b, 14, none⟩ (.int .i64 (id : Nat))).cell? ⟨b, 2, none⟩ = some (.int .i64 M.cs) := hl.1.blk.cell 2
  clear h hl
  generalize hn : M.strs.length = n at *
  clear hn
  go_enter Tryz.func196, Tryz.ntmps196
  go_upto_region 1 with fail
  generalize w.setCell ⟨b, 14, none⟩ (.int .i64 (id : Nat)) = W1 at *
  go_quiet (fail)
  go_wp2_with (first
    | (go_at_call 39
       refine (HP.out _).mono ?_
       intro e w' hp
       obtain rfl := hp.ret
       have HQ := Lib.hid hp
       clear hp)
    | fail)
  go_end0
  exact HQ.out.trans (HF1.out.trans (Fr.drewN _ ow _))
end Go.Proofs.YtkpppjhbmnfmkaaGreatDoor
end

section
namespace Go.Proofs.YtkpppjhbmnfmkaaGreatDoor
open Go.RowKit Go.Own Go.Own.Im Go.Own.Cx Go.Own.Fr
attribute [local go_sem] Oper.semAt_some
/-- What head.Open says of a list that is a request. -/
def HeadOk (A : Option Addr) (n c : Nat) (W : World) : Prop :=
  Calls Tryz.prog 57 #[.slice A n c] W fun e W' => ∃ a1 a2 a3 a4 v, e = .returned (.tuple #[.agg #[.string a1, .string a2, .string a3, .string a4, v], .nilIface]) ∧ (∃ A' n' c', v = .slice A' n' c') ∧ Below W.heap.size W W'
set_option maxHeartbeats 8000000 in
set_option maxRecDepth 100000 in
theorem opened_ok (w : World) (ow : Nat → Tg) (b : Nat) (M : Cv) (L : Lay) (id : Nat) (A : Option Addr) (c : Nat) (hs : List Hd.HdrV) (fin : Bool) (h : CN w ow b M L) (hid : id ≤ 2147483647) (hnew : ∀ s ∈ M.strs, s.id ≠ id) (hm : (M.strs.length : Int) < M.cs) (hbye : M.bye = false)
    (h0 : 0 ≤ M.window ∧ M.window ≤ 2147483647) (h1 : 0 ≤ M.others ∧ M.others ≤ 2147483647) (hn : M.strs.length ≤ 1000000) (hu : (M.strs.map (·.id)).Nodup) (hl : hs.length ≤ c) (hrs : Cm.RS hdrC 3 w w.heap.size A hs.length hs) (hpos : 0 < hs.length) (hown : ∀ ad, A = some ad → ow ad.block = .evd) (hev : M.evs.length ≤ 900000)
    (hop : ∀ W, Fr w ow W ow → Cm.RS hdrC 3 W w.heap.size A hs.length hs → HeadOk A hs.length c W) :
    Calls Tryz.prog 196 #[.pointer (some ⟨b, 0, none⟩), .int .i64 (id : Nat), .slice A hs.length c, .bool fin] w
      (CPost w ow b { M with last := id, strs := M.strs ++ [endS { id := id, other := 1, inw := M.window, outw := M.others } fin], evs := M.evs ++ [{ kind := 1, stream := id, fin := fin, la := A, lc := c, l := hs }] } (.tuple #[])) := by
  have hl' := h.last_ id
  have HC1 := Lib.hid hl'.1
  have HF1 := Lib.hid hl'.2
  have c14 : w.cell? ⟨b, 14, none⟩ = some (.int .i64 (M.last : Nat)) := h.blk.cell 14
  have f14 := h.blk.frozen 14
  have hlen := fun ty (n : Nat) => (hl'.1.drewN n).p.map.len Tryz.underlying74 ty
  simp only [List.length_map] at hlen
  have k15 : (w.setCell ⟨b, 14, none⟩ (.int .i64 (id : Nat))).cell? ⟨b, 15, none⟩ = some (.map (some L.mb)) := hl'.1.blk.cell 15
  have k2 : (w.setCell ⟨b, 14, none⟩ (.int .i64 (id : Nat))).cell? ⟨b, 2, none⟩ = some (.int .i64 M.cs) := hl'.1.blk.cell 2
  have k17 : (w.setCell ⟨b, 14, none⟩ (.int .i64 (id : Nat))).cell? ⟨b, 17, none⟩ = some (.bool M.bye) := hl'.1.blk.cell 17
  rw [hbye] at k17
  have hm1 : ¬ M.cs ≤ (M.strs.length : Int) := by omega
  have HR1 := Lib.hid (show Cm.RS hdrC 3 (w.setCell ⟨b, 14, none⟩ (.int .i64 (id : Nat))) w.heap.size A hs.length hs from hrs.setCell (fun ad e => fun e2 => by have := hown ad e; rw [e2] at this; simp only at this; rw [h.tb] at this; cases this) _)
  have HZ1 := Lib.hid (show (w.setCell ⟨b, 14, none⟩ (.int .i64 (id : Nat))).heap.size = w.heap.size by simp [World.setCell])
  have HOp := Lib.hid (fun n => hop ((w.setCell ⟨b, 14, none⟩ (.int .i64 (id : Nat))).drewN n) (hl'.2.trans (Fr.drewN _ ow n)) (HR1.out.keep (Nat.le_refl _) fun _ _ _ _ => rfl))
  have HH := Lib.hid (show _ ∧ _ ∧ _ ∧ _ ∧ _ ∧ _ ∧ _ ∧ _ ∧ _ from ⟨hid, hnew, h0, h1, hn, hu, hl, hown, hev⟩)
  clear h hl' hm hop hrs hown hnew h0 h1 hu hev
  generalize hnl : M.strs.length = n at *
  generalize hhl : hs.length = nh at *
  have HNl := Lib.hid hnl
  have HHl := Lib.hid hhl
  clear hnl hhl
  go_enter Tryz.func196, Tryz.ntmps196
  go_upto_region 1 with fail
  generalize w.setCell ⟨b, 14, none⟩ (.int .i64 (id : Nat)) = W1 at *
  go_quiet (fail)
  go_wp2_with (first
    | (go_at_call 57
       refine Calls.mono (HOp.out _) ?_
       rintro e w2 ⟨a1, a2, a3, a4, v, rfl, ⟨A', n', c', rfl⟩, hb2⟩
       have HB2 := Lib.hid (show Below W1.heap.size W1 w2 from (below_drewN (Below.refl _ _) _).trans hb2)
       clear hb2)
    | fail)
  have HB3 := Lib.hid (HB2.out.alloc HB2.out.size (.cells #[.string a1, .string a2, .string a3, .string a4, .slice A' n' c'] 115))
  generalize w2.alloc (.cells #[.string a1, .string a2, .string a3, .string a4, .slice A' n' c'] 115) = W3 at *
  refine Calls.mono (opens_any W3 ow b _ L id (HC1.out.below HB3.out) HH.out.2.1 HH.out.1 HH.out.2.2.1 HH.out.2.2.2.1 (HNl.out ▸ HH.out.2.2.2.2.1)) ?_
  rintro e w4 ⟨rfl, ow4, L4, hc4, hf4, hsb, hno, how, hkp⟩
  have hmem : ({ id := id, inw := M.window, outw := M.others } : Sv) ∈ M.strs ++ [({ id := id, inw := M.window, outw := M.others } : Sv)] := by simp
  have hS4 := hc4.p.strs _ hmem
  have s2 : w4.cell? ⟨(L4.s id).sb, 2, none⟩ = some (.int .i64 0) := hS4.blk.cell 2
  have sf : w4.frozen? ⟨(L4.s id).sb, 2, none⟩ = false := hS4.blk.frozen 2
  have hk5 := hc4.strcell (s := { id := id, inw := M.window, outw := M.others }) (s' := { id := id, other := 1, inw := M.window, outw := M.others }) hmem rfl 2 (.int .i64 1) rfl rfl rfl rfl
  rw [updS_last (s := { id := id, inw := M.window, outw := M.others }) (s' := { id := id, other := 1, inw := M.window, outw := M.others }) HH.out.2.1 rfl] at hk5
  have HK5 := Lib.hid hk5
  have hz1 := HZ1.out
  have hz3 := HB3.out.size
  obtain ⟨ad0, ha0, hlt0⟩ : ∃ ad, A = some ad ∧ ad.block < w.heap.size := by
    obtain ⟨ad, h1, h2, _⟩ := HR1.out.2 0 _ (List.getElem?_eq_getElem (by rw [HHl.out]; exact hpos))
    exact ⟨ad, h1, h2⟩
  have hevd := HH.out.2.2.2.2.2.2.2.1 ad0 ha0
  have hR3 : Cm.RS hdrC 3 W3 w.heap.size A nh hs := HR1.out.below (HB3.out.mono (by omega))
  have hR4 : Cm.RS hdrC 3 w4 w.heap.size A nh hs := hR3.keep (by have := hf4.size; exact this) fun ad h1 h2 h3 => hkp _ h3 (by rw [ha0] at h1; injection h1 with h1; rw [← h1, hevd]; decide)
  have hR5 : Cm.RS hdrC 3 (w4.setCell ⟨(L4.s id).sb, 2, none⟩ (.int .i64 1)) w.heap.size A nh hs := hR4.setCell (fun ad h1 => by rw [ha0] at h1; injection h1 with h1; rw [hsb, ← h1]; simp only; omega) _
  have hE : EvOk (w4.setCell ⟨(L4.s id).sb, 2, none⟩ (.int .i64 1)) ow4 { kind := 1, stream := id, fin := fin, la := A, lc := c, l := hs } :=
    ⟨⟨by show hs.length ≤ c; rw [HHl.out]; exact HH.out.2.2.2.2.2.2.1, by
        show Cm.RS hdrC 3 _ _ A hs.length hs
        rw [HHl.out]
        exact hR5.more (by have := hf4.size; simp [World.setCell]; omega), fun _ ad h1 => by
        have h1 : A = some ad := h1
        rw [ha0] at h1; injection h1 with h1
        rw [← h1, how _ (by omega)]; exact hevd⟩, ⟨Nat.le_refl _, rd_nil0 _ _, fun h => absurd h (Nat.lt_irrefl _)⟩⟩
  have HT := tell_anyL _ ow4 b _ L4 { kind := 1, stream := id, fin := fin, la := A, lc := c, l := hs } hk5.1 hE HH.out.2.2.2.2.2.2.2.2
  have hEv : evC { kind := 1, stream := id, fin := fin, la := A, lc := c, l := hs } = #[.int .i64 1, .int .i64 (id : Nat), .int .i64 0, .int .i64 0, .bool fin, .slice A nh c, .slice none 0 0] := by simp only [evC, HHl.out]; rfl
  rw [hEv] at HT
  have HT := Lib.hid HT
  have HF4 := Lib.hid hf4
  have HS4 := Lib.hid hsb
  rw [hsb] at s2 sf HT HK5
  clear hc4 hf4 hno how hkp hk5 hS4 hmem hR3 hR4 hR5 hE hevd hlt0 ha0 hEv
  rw [← hsb] at *
  have HQ := Lib.hid (fun (L6 : Lay) (h6 : L6.s = L4.s) => (show (L6.s id).sb = (L4.s id).sb by rw [h6]))
  generalize (L4.s id).sb = sb at *
  have hnd : ((M.strs ++ [({ id := id, other := 1, inw := M.window, outw := M.others } : Sv)]).map (·.id)).Nodup := by
    rw [List.map_append, List.nodup_append]
    refine ⟨HH.out.2.2.2.2.2.1, by simp, fun a ha c hc => ?_⟩
    obtain ⟨x, hx, rfl⟩ := List.mem_map.1 ha
    obtain rfl : c = id := by simpa using hc
    exact HH.out.2.1 x hx
  have HNd := Lib.hid hnd
  clear hnd
  go_wp2_with (first
    | (go_at_call 109
       refine HT.out.mono ?_
       rintro e w6 ⟨ow6, L6, rfl, hc6, hf6, hs6⟩
       have HE6 := ends_any w6 ow6 b _ L6 { id := id, other := 1, inw := M.window, outw := M.others } fin hc6 (by simp) (by simp) HNd.out
       have hp6 : (L6.s ({ id := id, other := 1, inw := M.window, outw := M.others } : Sv).id).sb = sb := HQ.out L6 hs6
       rw [hp6, updS_last (s := { id := id, other := 1, inw := M.window, outw := M.others }) (s' := endS { id := id, other := 1, inw := M.window, outw := M.others } fin) (by cases fin <;> exact HH.out.2.1) (by cases fin <;> rfl)] at HE6
       have HE6 := Lib.hid HE6
       have HF6 := Lib.hid hf6
       clear hc6 hf6 hs6 hp6)
    | (go_at_call 193
       refine HE6.out.mono ?_
       intro e w7 hp
       obtain rfl := hp.ret
       have HR7 := Lib.hid hp
       clear hp)
    | fail)
  go_end0
  have hfin := HR7.out.trans HF6.out |>.trans HK5.out.2 |>.trans HF4.out |>.trans (Fr.below HB3.out ow) |>.trans HF1.out
  exact hfin
end Go.Proofs.YtkpppjhbmnfmkaaGreatDoor
end
