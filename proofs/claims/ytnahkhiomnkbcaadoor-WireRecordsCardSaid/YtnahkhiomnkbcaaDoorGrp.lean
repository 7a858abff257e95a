/-
  Contracts: wire.group: records in one another.
-/
import Derived.Test.YtnahkhiomnkbcaaDoorLeaf
import Derived.Deep.RegionWith
import Derived.Deep.RegionHeld3
import Derived.Deep.DeepCutAuto
namespace Go.Proofs.YtnahkhiomnkbcaaDoor
open Go.RowKit Go.Own Go.Own.Wire

/-- What a group holds, with d groups more let. -/
def grpOf : Nat → Nat → List UInt8 → Except Nat Held
  | 0, _, _ => .error 105
  | d + 1, f, l => grpLoop (way d) f l (l.length + 1) 0
theorem way_eq (d k f : Nat) (l : List UInt8) : way d k f l = leaf k l (grpOf d f l) := by cases d <;> rfl
theorem leaf3 (l : List UInt8) (g : Except Nat Held) : leaf 3 l g = g := rfl

theorem run_look {P : Program} (w : World) {t k e : TypeId} (ht : P.underlying t = some (.map k e)) (hk : P.underlying k = some (.int .i64)) (r clock : Nat) (es : Array MapEntry) (key : Int) (j : Nat) (v : Value)
    (hb : w.heap[r]? = some (.map es clock)) (hf : Instr.findNow (.int .i64) (.int .i64 key) es.toList 0 = some (some (j, v))) :
    (Instr.lookup t (.map (some r)) (.int .i64 key) false).run P w = .ok v w := by
  have hc : (Instr.checkKey es.isEmpty 10000 k (.int .i64 key)).run P w = .ok () w := MapKept.run_checkKey (k := .int .i64 key) hk (by simp [MapKept.IsKey]) _ 9999
  simp [Instr.lookup, run_underlying ht, MapKept.run_getObj_map hb, hc, MapKept.run_findKey hk hf, Result.andThen]

/-- The function of each kind. -/
def wayFn (b1 b2 : Nat) : Nat → Value
  | 0 => fnv 36
  | 1 => fixv b1
  | 5 => fixv b2
  | 2 => fnv 37
  | _ => fnv 38
theorem look_ways (w : World) (r b1 b2 : Nat) (h : w.heap[r]? = some (waysMap b1 b2)) (k : Nat) (hk : k = 0 ∨ k = 1 ∨ k = 2 ∨ k = 3 ∨ k = 5) :
    (Instr.lookup 68 (.map (some r)) (.int .i64 (k : Int)) false).run Tryd.prog w = .ok (wayFn b1 b2 k) w := by
  rcases hk with rfl | rfl | rfl | rfl | rfl
  · exact run_look w Tryd.underlying68 Tryd.underlying3 r 5 _ _ 0 _ h rfl
  · exact run_look w Tryd.underlying68 Tryd.underlying3 r 5 _ _ 1 _ h rfl
  · exact run_look w Tryd.underlying68 Tryd.underlying3 r 5 _ _ 3 _ h rfl
  · exact run_look w Tryd.underlying68 Tryd.underlying3 r 5 _ _ 4 _ h rfl
  · exact run_look w Tryd.underlying68 Tryd.underlying3 r 5 _ _ 2 _ h rfl

theorem look_ways0 (w : World) (r b1 b2 : Nat) (h : w.heap[r]? = some (waysMap b1 b2)) (k : Nat) (hk : k = 0) :
    (Instr.lookup 68 (.map (some r)) (.int .i64 (k : Int)) false).run Tryd.prog w = .ok (.func (.func 36) #[] #[]) w := by subst hk; exact look_ways w r b1 b2 h 0 (by omega)
theorem look_ways1 (w : World) (r b1 b2 : Nat) (h : w.heap[r]? = some (waysMap b1 b2)) (k : Nat) (hk : k = 1) :
    (Instr.lookup 68 (.map (some r)) (.int .i64 (k : Int)) false).run Tryd.prog w = .ok (.func (.func 35) #[] #[.pointer (some ⟨b1, 0, none⟩)]) w := by subst hk; exact look_ways w r b1 b2 h 1 (by omega)
theorem look_ways5 (w : World) (r b1 b2 : Nat) (h : w.heap[r]? = some (waysMap b1 b2)) (k : Nat) (hk : k = 5) :
    (Instr.lookup 68 (.map (some r)) (.int .i64 (k : Int)) false).run Tryd.prog w = .ok (.func (.func 35) #[] #[.pointer (some ⟨b2, 0, none⟩)]) w := by subst hk; exact look_ways w r b1 b2 h 5 (by omega)
theorem look_ways2 (w : World) (r b1 b2 : Nat) (h : w.heap[r]? = some (waysMap b1 b2)) (k : Nat) (hk : k = 2) :
    (Instr.lookup 68 (.map (some r)) (.int .i64 (k : Int)) false).run Tryd.prog w = .ok (.func (.func 37) #[] #[]) w := by subst hk; exact look_ways w r b1 b2 h 2 (by omega)
theorem look_ways3 (w : World) (r b1 b2 : Nat) (h : w.heap[r]? = some (waysMap b1 b2)) (k : Nat) (hk : k = 3) :
    (Instr.lookup 68 (.map (some r)) (.int .i64 (k : Int)) false).run Tryd.prog w = .ok (.func (.func 38) #[] #[]) w := by subst hk; exact look_ways w r b1 b2 h 3 (by omega)

/-- The contract of group, with d groups more let. -/
def GroupC (d : Nat) : Prop := ∀ (A : Option Addr) (n c f g : Nat) (l : List UInt8) (w : World) (ea : Nat → Addr) (B : Nat), Env w ea → Rd w B A n l → n ≤ 1000000000000 → n ≤ c → B ≤ w.heap.size →
    Blk w g 29 (recCells f 3 0 (.slice none 0 0)) →
    Calls Tryd.prog 38 #[.pointer (some ⟨g, 0, none⟩), .slice A n c, .int .i64 (32 - (d : Int))] w (WayPost ea w g f 3 (grpOf d f l))


theorem wayRes_form (ea : Nat → Addr) (r : Except Nat Held) : ∃ m e, wayRes ea r = .tuple #[m, e] := by
  rcases r with k | ⟨u, b, m⟩
  · exact ⟨_, _, rfl⟩
  · exact ⟨_, _, rfl⟩

section
variable {A : Option Addr} {n c f g d k : Nat} {l : List UInt8} {w : World} {ea : Nat → Addr} {B : Nat}
theorem wayk0 (dd : Int) (hk : k = 0) (he : Env w ea) (hr : Rd w B A n l) (hn : n ≤ 1000000000000) (hg : Blk w g 29 (recCells f k 0 (.slice none 0 0))) :
    Calls Tryd.prog 36 #[.pointer (some ⟨g, 0, none⟩), .slice A n c, .int .i64 dd] w (WayPost ea w g f k (way d k f l)) := by
  subst hk; rw [way_eq]; exact way0_any A n c f g dd l w ea B he hr hn hg _
theorem wayk1 (dd : Int) {b1 : Nat} (hk : k = 1) (he : Env w ea) (hr : Rd w B A n l) (hn : n ≤ 1000000000000) (hg : Blk w g 29 (recCells f k 0 (.slice none 0 0))) (hb : w.cell? ⟨b1, 0, none⟩ = some (.int .i64 8)) :
    Calls Tryd.prog 35 #[.pointer (some ⟨g, 0, none⟩), .slice A n c, .int .i64 dd, .pointer (some ⟨b1, 0, none⟩)] w (WayPost ea w g f k (way d k f l)) := by
  subst hk; rw [way_eq]; exact way1_any A n c f g b1 dd l w ea B he hr hn hg hb _
theorem wayk5 (dd : Int) {b1 : Nat} (hk : k = 5) (he : Env w ea) (hr : Rd w B A n l) (hn : n ≤ 1000000000000) (hg : Blk w g 29 (recCells f k 0 (.slice none 0 0))) (hb : w.cell? ⟨b1, 0, none⟩ = some (.int .i64 4)) :
    Calls Tryd.prog 35 #[.pointer (some ⟨g, 0, none⟩), .slice A n c, .int .i64 dd, .pointer (some ⟨b1, 0, none⟩)] w (WayPost ea w g f k (way d k f l)) := by
  subst hk; rw [way_eq]; exact way5_any A n c f g b1 dd l w ea B he hr hn hg hb _
theorem wayk2 (dd : Int) (hk : k = 2) (he : Env w ea) (hr : Rd w B A n l) (hn : n ≤ 1000000000000) (hnc : n ≤ c) (hB : B ≤ w.heap.size) (hg : Blk w g 29 (recCells f k 0 (.slice none 0 0))) :
    Calls Tryd.prog 37 #[.pointer (some ⟨g, 0, none⟩), .slice A n c, .int .i64 dd] w (WayPost ea w g f k (way d k f l)) := by
  subst hk; rw [way_eq]; exact way2_any A n c f g dd l w ea B he hr hn hnc hB hg _
theorem wayk3 (ih : GroupC d) (hk : k = 3) (he : Env w ea) (hr : Rd w B A n l) (hn : n ≤ 1000000000000) (hnc : n ≤ c) (hB : B ≤ w.heap.size) (hg : Blk w g 29 (recCells f k 0 (.slice none 0 0))) :
    Calls Tryd.prog 38 #[.pointer (some ⟨g, 0, none⟩), .slice A n c, .int .i64 (32 - (d : Int))] w (WayPost ea w g f k (way d k f l)) := by
  subst hk; rw [way_eq, leaf3]; exact ih A n c f g l w ea B he hr hn hnc hB hg
end

/-- What a way leaves: in two variables and in memory. -/
def Disp (ea : Nat → Addr) (res : Except Nat Held) (w : World) (g f k : Nat) (m e : Value) (w' : World) : Prop :=
  wayRes ea res = .tuple #[m, e] ∧ w.grownBy w' (some g) ∧ WayHeld w w' g f k res

/-- What ways and then a way leave. -/
theorem held_more {w w1 w2 : World} {g f k : Nat} {r : Except Nat Held} (hs : w.heap.size ≤ w1.heap.size) (h : WayHeld w1 w2 g f k r) : WayHeld w w2 g f k r := by
  rcases r with e | ⟨u, b, m⟩
  · trivial
  · obtain ⟨v, h1, h2⟩ := h
    exact ⟨v, h1, h2.base hs⟩


def DispE (ea : Nat → Addr) (res : Except Nat Held) (w : World) (g f k : Nat) (e : Ending) (w' : World) : Prop :=
  ∃ m v, e = .returned (.tuple #[m, v]) ∧ Disp ea res w g f k m v w'
/-- What a way finds. -/
structure DispIn (ea : Nat → Addr) (w : World) (A : Option Addr) (n c : Nat) (l : List UInt8) (g f k : Nat) : Prop where
  env : Env w ea
  rd : Rd w w.heap.size A n l
  small : n ≤ 1000000000000
  cap : n ≤ c
  blk : Blk w g 29 (recCells f k 0 (.slice none 0 0))

theorem dispE {ea : Nat → Addr} {res : Except Nat Held} {w w1 : World} {g f k fn : Nat} {args : Array Value} (hb : Below w.heap.size w w1) (h : Calls Tryd.prog fn args w1 (WayPost ea w1 g f k res)) :
    Calls Tryd.prog fn args w1 (DispE ea res w g f k) := by
  refine h.mono ?_
  rintro e w2 ⟨rfl, hg, hh⟩
  obtain ⟨m, v, hme⟩ := wayRes_form ea res
  exact ⟨m, v, by rw [hme], hme, grown_trans (grown_of_below hb _) hg, held_more hb.size hh⟩
section
variable {ea : Nat → Addr} {w w1 : World} {A : Option Addr} {n c : Nat} {l : List UInt8} {g f k d b1 : Nat}
theorem disp0 (dd : Int) (h : DispIn ea w A n c l g f k) (hk : k = 0) (hb : Below w.heap.size w w1) :
    Calls Tryd.prog 36 #[.pointer (some ⟨g, 0, none⟩), .slice A n c, .int .i64 dd] w1 (DispE ea (way d k f l) w g f k) :=
  dispE hb (wayk0 dd hk (h.env.below hb h.env.room) (h.rd.below hb) h.small (h.blk.below hb h.blk.lt))
theorem disp1 (dd : Int) (h : DispIn ea w A n c l g f k) (hk : k = 1) (hb : Below w.heap.size w w1) (hc : w1.cell? ⟨b1, 0, none⟩ = some (.int .i64 8)) :
    Calls Tryd.prog 35 #[.pointer (some ⟨g, 0, none⟩), .slice A n c, .int .i64 dd, .pointer (some ⟨b1, 0, none⟩)] w1 (DispE ea (way d k f l) w g f k) :=
  dispE hb (wayk1 dd hk (h.env.below hb h.env.room) (h.rd.below hb) h.small (h.blk.below hb h.blk.lt) hc)
theorem disp5 (dd : Int) (h : DispIn ea w A n c l g f k) (hk : k = 5) (hb : Below w.heap.size w w1) (hc : w1.cell? ⟨b1, 0, none⟩ = some (.int .i64 4)) :
    Calls Tryd.prog 35 #[.pointer (some ⟨g, 0, none⟩), .slice A n c, .int .i64 dd, .pointer (some ⟨b1, 0, none⟩)] w1 (DispE ea (way d k f l) w g f k) :=
  dispE hb (wayk5 dd hk (h.env.below hb h.env.room) (h.rd.below hb) h.small (h.blk.below hb h.blk.lt) hc)
theorem disp2 (dd : Int) (h : DispIn ea w A n c l g f k) (hk : k = 2) (hb : Below w.heap.size w w1) :
    Calls Tryd.prog 37 #[.pointer (some ⟨g, 0, none⟩), .slice A n c, .int .i64 dd] w1 (DispE ea (way d k f l) w g f k) :=
  dispE hb (wayk2 dd hk (h.env.below hb h.env.room) (h.rd.below hb) h.small h.cap hb.size (h.blk.below hb h.blk.lt))
theorem disp3 (ih : GroupC d) (h : DispIn ea w A n c l g f k) (hk : k = 3) (hb : Below w.heap.size w w1) :
    Calls Tryd.prog 38 #[.pointer (some ⟨g, 0, none⟩), .slice A n c, .int .i64 (32 - (d : Int))] w1 (DispE ea (way d k f l) w g f k) :=
  dispE hb (wayk3 ih hk (h.env.below hb h.env.room) (h.rd.below hb) h.small h.cap hb.size (h.blk.below hb h.blk.lt))
end

set_option maxHeartbeats 400000 in
set_option maxRecDepth 100000 in
theorem group_zero : GroupC 0 := by
  intro A n c f g l w ea B he hr hn hnc hB hg
  have h1 := he.deep
  have HG := Lib.hid hg
  clear he hr hg
  go_enter Tryd.func38, Tryd.ntmps38
  go_wp2
  go_region
  go_wp2
  go_ret2
  exact ⟨rfl, grown_drewN (World.grownBy.refl _ _) 1, trivial⟩

/-- What group's loop holds. -/
def GrpRel (w : World) (d n f : Nat) (l : List UInt8) (at_ : Value) (wr : World) : Prop :=
  ∃ p fuel : Nat, p ≤ n ∧ at_ = .int .i64 (p : Int) ∧ grpOf (d + 1) f l = grpLoop (way d) f l (fuel + 1) p ∧ n - p ≤ fuel ∧ Below w.heap.size w wr

set_option maxHeartbeats 1000000 in
set_option maxRecDepth 100000 in
theorem group_succ (d : Nat) (hd : d < 32) (ih : GroupC d) : GroupC (d + 1) := by
  intro A n c f g l w ea B he hr hn hnc hB hg
  have hfield : w.cell? ⟨g, 0, none⟩ = some (.int .i64 (f : Int)) := hg.cell 0
  have hgl := hg.lt
  have HE := Lib.hid he
  have HR := Lib.hid hr
  have HG := Lib.hid hg
  have IH := Lib.hid ih
  have hln := hr.len
  have HLN := Lib.hid hln
  have h104 := he.group
  have h8 := he.room
  clear he hr hg ih hln
  have hdep : (32 : Int) - ((d + 1 : Nat) : Int) = 31 - (d : Int) := by omega
  rw [hdep]
  clear hdep
  have hd0 : ¬ (32 : Int) ≤ 31 - (d : Int) := by omega
  go_enter Tryd.func38, Tryd.ntmps38
  go_wp2
  go_loopw [8, 9, 10, 11, 12, 13, 14] (fun at_ _ _ _ _ _ _ wr => GrpRel w d n f l at_ wr) (fun at_ _ _ _ _ _ _ _ => n - (intOf at_).toNat)
  case atStart => exact ⟨0, n, Nat.zero_le _, rfl, by rw [grpOf, HLN.out], by omega, Below.refl _ _⟩
  case round =>
    obtain ⟨p, fuel, hp, rfl, hgo, hfu, hb⟩ := hrel
    have HGO := Lib.hid hgo
    have HB := Lib.hid hb
    have hcf : wr.cell? ⟨g, 0, none⟩ = some (.int .i64 (f : Int)) := (hb.cell (p := ⟨g, 0, none⟩) hgl).trans hfield
    have hc104 := (HE.out.below hb h8).group
    have hs := hb.size
    clear hgo hb
    rcases ht : tagOf (l.drop p) with k | ⟨f', k, m⟩
    · have HT := Lib.hid ht; clear ht
      have H1 := Lib.hid ((HR.out.more hB).below HB.out |>.cut (c := c) hp hnc)
      go_wp2_with fail
      all_goals
        refine (tag_any _ _ _ (l.drop p) _ ea w.heap.size (by exact HE.out.below HB.out h8) ?_ (by omega)).mono ?_
        · first
          | (have := H1.out; rw [if_pos (by assumption)] at this; exact this)
          | (have := H1.out; rw [if_neg (by assumption)] at this; exact this)
        rintro e w' ⟨rfl, m1, rfl⟩
        rw [HT.out, tagRes]
        go_wp2
        go_ret2
        rw [HGO.out, grpLoop_tagErr HT.out]
        exact ⟨rfl, grown_drewN (grown_of_below HB.out _) m1, trivial⟩
    · have hle := tagOf_le ht
      have HT := Lib.hid ht; clear ht
      rw [List.length_drop, HLN.out] at hle
      obtain ⟨hf1, hf2, hk5, hm1, hm2, hm3⟩ := hle
      have hpc : ¬ c = p := by omega
      have H1 : Hid (Rd wr w.heap.size (A.map fun x => x.add p) (n - p) (l.drop p)) := by
        have := ((HR.out.more hB).below HB.out).cut (c := c) hp hnc
        rw [if_neg hpc] at this; exact Lib.hid this
      by_cases hk4 : k = 4
      · have t4 : ((k : Int) == 4) = true := by simp; omega
        have HK4 := Lib.hid hk4; clear hk4
        by_cases hff : f' = f
        · have tf : ((f' : Int) != (f : Int)) = false := by simp; omega
          have HFF := Lib.hid hff; clear hff
          go_wp2_with fail
          refine (tag_any _ _ _ (l.drop p) _ ea w.heap.size (by exact HE.out.below HB.out h8) (by exact H1.out) (by omega)).mono ?_
          rintro e w' ⟨rfl, m1, rfl⟩
          rw [HT.out, tagRes]
          go_wp2_with fail
          refine (copied_any _ p _ 0 (l.take p) _ w.heap.size ?_ (by exact hs) (by omega) (by omega)).mono ?_
          · exact ((((HR.out.more hB).below HB.out).head hp).drewN m1)
          rintro e w2 ⟨rfl, ho2, hb2⟩
          have hbk := ((HG.out.below HB.out hgl).drewN m1).below hb2 (Nat.lt_of_lt_of_le hgl hs)
          have hc3 : w2.cell? ⟨g, 3, none⟩ = some (.slice none 0 0) := hbk.cell 3
          have hf3 := hbk.frozen 3
          have HO := Lib.hid ho2
          have HB2 := Lib.hid hb2
          have HBK := Lib.hid hbk
          clear ho2 hb2 hbk
          go_wp2
          go_ret2
          have ht' := HT.out
          rw [HK4.out, HFF.out] at ht'
          rw [HGO.out, grpLoop_end ht']
          refine ⟨rfl, ?_, _, HBK.out.put 3 _, ?_⟩
          · exact grown_setCell (grown_trans (grown_drewN (grown_of_below HB.out _) m1) (grown_of_below HB2.out _)) _ _
          · rw [HO.out.len]
            refine Ow.base ?_ hs
            exact HO.out.grown (grown_setCell (World.grownBy.refl _ _) 3 _) (.inr (by simp [Value.ownBlock]; omega))
        · have tf : ((f' : Int) != (f : Int)) = true := by simp; omega
          have HFF := Lib.hid hff; clear hff
          go_wp2_with fail
          refine (tag_any _ _ _ (l.drop p) _ ea w.heap.size (by exact HE.out.below HB.out h8) (by exact H1.out) (by omega)).mono ?_
          rintro e w' ⟨rfl, m1, rfl⟩
          rw [HT.out, tagRes]
          go_wp2
          go_region
          go_wp2
          go_ret2
          have ht' := HT.out
          rw [HK4.out] at ht'
          rw [HGO.out, grpLoop_other ht' HFF.out]
          exact ⟨rfl, grown_drewN (grown_of_below HB.out _) (m1 + 1), trivial⟩
      · have t4 : ((k : Int) == 4) = false := by simp; omega
        have hkk : k = 0 ∨ k = 1 ∨ k = 2 ∨ k = 3 ∨ k = 5 := by omega
        have HK4 := Lib.hid hk4; clear hk4
        have hpm : p + m ≤ n := by omega
        have hpm2 : p + m ≤ c := by omega
        go_wp2_with fail
        refine (tag_any _ _ _ (l.drop p) _ ea w.heap.size (by exact HE.out.below HB.out h8) (by exact H1.out) (by omega)).mono ?_
        rintro e w1 ⟨rfl, m1, hw1⟩
        have HB1 : Hid (Below w.heap.size w w1) := by rw [hw1]; exact Lib.hid (below_drewN HB.out m1)
        clear hw1
        have hs1 := HB1.out.size
        rw [HT.out, tagRes]
        go_wp2_with fail
        have HBK1 := Lib.hid (Blk.new w1 29 (recCells f' k 0 (.slice none 0 0)))
        have HB2 := Lib.hid (HB1.out.alloc hs1 (.cells (recCells f' k 0 (.slice none 0 0)) 29))
        have hsz : (w1.alloc (.cells (recCells f' k 0 (.slice none 0 0)) 29)).heap.size = w1.heap.size + 1 := by simp
        unfold recCells at HBK1 HB2 hsz
        generalize w1.alloc _ = W1 at HBK1 HB2 hsz ⊢
        generalize w1.heap.size = g1 at *
        have hsz1 : g1 + 1 ≤ W1.heap.size := by omega
        clear hsz
        obtain ⟨A', hA', hsl⟩ := cut_from (c := c) byteP ((HR.out.more hB).below HB2.out) ((p : Int) + (m : Int)) (k := p + m) (by omega) hpm hnc
        have HX : Hid (DispIn ea W1 A' (n - (p + m)) (c - (p + m)) (l.drop (p + m)) g1 f' k) :=
          Lib.hid ⟨HE.out.below HB2.out h8, hA'.more HB2.out.size, by omega, by omega, HBK1.out⟩
        have hsW : w.heap.size ≤ W1.heap.size := HB2.out.size
        have hg1 : w.heap.size ≤ g1 := hs1
        clear hA'
        generalize hn2 : n - (p + m) = n2 at hsl HX
        generalize hc2' : c - (p + m) = c2 at hsl HX
        clear hn2 hc2'
        have q1 : IntKind.i64.wrap ((p : Int) + (m : Int)) = (p : Int) + (m : Int) := IntWalk.i64_in _ (by omega)
        have q4 : IntKind.i64.wrap (31 - (d : Int) + 1) = 32 - (d : Int) := (IntWalk.i64_in _ (by omega)).trans (by omega)
        have HT' := Lib.hid t4
        go_cut [14, 12] (fun mv ev wx => Disp ea (way d k f' (l.drop (p + m))) W1 g1 f' k mv ev wx)
        case first =>
          clear hfield h104 hcf hc104 hpc t4 hd0 hgl hfu hs hf1 hf2 hk5 hm1 hm2 hm3 hsz1 hs1 hn HT HGO HG HLN HB HB1 H1 HK4 HR HB2 HBK1 HE h8 hpm hpm2 hnc hp hsW hg1 hB
          rcases hkk with hk | hk | hk | hk | hk
          · have HK := Lib.hid hk; clear hk
            go_region_with (first
              | (go_at_call 29; refine (ways_any _).mono ?_; rintro e w2 ⟨b1, b2, rfl, hb2, hm2, hc1, hc2, hl1, hl2⟩; have hlk := look_ways0 w2 W1.heap.size b1 b2 hm2 k HK.out; have HB3 := Lib.hid (below_of_drew hb2); clear hb2 hm2)
              | (go_at_call 36; refine (disp0 (d := d) _ HX.out HK.out (by exact HB3.out)).mono ?_; rintro e w3 ⟨mv, ev, rfl, hdd⟩; have HD := Lib.hid hdd; clear hdd))
            go_wp2_with fail
            go_meet
            exact HD.out
          · have HK := Lib.hid hk; clear hk
            go_region_with (first
              | (go_at_call 29; refine (ways_any _).mono ?_; rintro e w2 ⟨b1, b2, rfl, hb2, hm2, hc1, hc2, hl1, hl2⟩; have hlk := look_ways1 w2 W1.heap.size b1 b2 hm2 k HK.out; have HB3 := Lib.hid (below_of_drew hb2); clear hb2 hm2)
              | (go_at_call 35; refine (disp1 (d := d) _ HX.out HK.out (by exact HB3.out) (by exact hc1)).mono ?_; rintro e w3 ⟨mv, ev, rfl, hdd⟩; have HD := Lib.hid hdd; clear hdd))
            go_wp2_with fail
            go_meet
            exact HD.out
          · have HK := Lib.hid hk; clear hk
            go_region_with (first
              | (go_at_call 29; refine (ways_any _).mono ?_; rintro e w2 ⟨b1, b2, rfl, hb2, hm2, hc1, hc2, hl1, hl2⟩; have hlk := look_ways2 w2 W1.heap.size b1 b2 hm2 k HK.out; have HB3 := Lib.hid (below_of_drew hb2); clear hb2 hm2)
              | (go_at_call 37; refine (disp2 (d := d) _ HX.out HK.out (by exact HB3.out)).mono ?_; rintro e w3 ⟨mv, ev, rfl, hdd⟩; have HD := Lib.hid hdd; clear hdd))
            go_wp2_with fail
            go_meet
            exact HD.out
          · have HK := Lib.hid hk; clear hk
            go_region_with (first
              | (go_at_call 29; refine (ways_any _).mono ?_; rintro e w2 ⟨b1, b2, rfl, hb2, hm2, hc1, hc2, hl1, hl2⟩; have hlk := look_ways3 w2 W1.heap.size b1 b2 hm2 k HK.out; have HB3 := Lib.hid (below_of_drew hb2); clear hb2 hm2)
              | (go_at_call 38; refine (disp3 (d := d) IH.out HX.out HK.out (by exact HB3.out)).mono ?_; rintro e w3 ⟨mv, ev, rfl, hdd⟩; have HD := Lib.hid hdd; clear hdd))
            go_wp2_with fail
            go_meet
            exact HD.out
          · have HK := Lib.hid hk; clear hk
            go_region_with (first
              | (go_at_call 29; refine (ways_any _).mono ?_; rintro e w2 ⟨b1, b2, rfl, hb2, hm2, hc1, hc2, hl1, hl2⟩; have hlk := look_ways5 w2 W1.heap.size b1 b2 hm2 k HK.out; have HB3 := Lib.hid (below_of_drew hb2); clear hb2 hm2)
              | (go_at_call 35; refine (disp5 (d := d) _ HX.out HK.out (by exact HB3.out) (by exact hc2)).mono ?_; rintro e w3 ⟨mv, ev, rfl, hdd⟩; have HD := Lib.hid hdd; clear hdd))
            go_wp2_with fail
            go_meet
            exact HD.out
        case rest =>
          clear hsl q1 q4 hkk
          obtain ⟨hme, hg3, hh3⟩ := hcut
          have HBX : Hid (Below w.heap.size w wc) := Lib.hid (HB2.out.grown hg3 hsW (by simp; omega))
          clear hg3 hh3
          rcases hw : way d k f' (l.drop (p + m)) with er | ⟨u, b, m'⟩ <;> rw [hw] at hme
          · have HW := Lib.hid hw; clear hw
            injection hme with hme
            simp only [Array.mk.injEq, List.cons.injEq, and_true] at hme
            obtain ⟨rfl, rfl⟩ := hme
            go_wp2
            go_ret2
            rw [HGO.out, grpLoop_inErr HT.out HK4.out HW.out]
            exact ⟨rfl, grown_of_below HBX.out _, trivial⟩
          · have HW := Lib.hid hw
            have hle := way_le d _ _ _ _ _ _ hw
            clear hw
            rw [List.length_drop, HLN.out] at hle
            injection hme with hme
            simp only [Array.mk.injEq, List.cons.injEq, and_true] at hme
            obtain ⟨rfl, rfl⟩ := hme
            go_wp2
            go_roundw
            case rel => exact ⟨p + (m + m'), fuel - 1, by omega, by go_num, by
              rw [HGO.out, grpLoop_in HT.out HK4.out HW.out, show fuel - 1 + 1 = fuel by omega], by omega, HBX.out⟩
            case measure => simp [intOf]; omega

theorem group_any : ∀ d : Nat, d ≤ 32 → GroupC d
  | 0, _ => group_zero
  | d + 1, h => group_succ d (by omega) (group_any d (by omega))
end Go.Proofs.YtnahkhiomnkbcaaDoor
