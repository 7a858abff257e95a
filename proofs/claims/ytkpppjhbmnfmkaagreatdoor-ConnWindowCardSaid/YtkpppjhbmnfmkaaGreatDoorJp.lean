/-
  Contracts: table.stands, Static at three indices, Get; hpack.Int of a small number; give.
  Contracts of a block that is read: number, header, tell; the kind of an index.
  Contracts: the kind of an index; kinds; Decode of a block of indexes that stand.
  Contract: (*Decoder).Decode of a block of indexes that stand.
-/
import Derived.Test.YtkpppjhbmnfmkaaGreatDoorJc
import Derived.Test.YtkpppjhbmnfmkaaGreatDoorShelf
import Derived.Deep.CutBlock
import Derived.Scope
import Derived.WalkMore
import Derived.Test.YtkpppjhbmnfmkaaGreatDoorJg
import Derived.Test.YtkpppjhbmnfmkaaGreatDoorFp
import Derived.Deep.RegionLaw
import Derived.Deep.RegionWith
import Derived.Deep.DrawnRows
import Derived.BigQuiet
import Derived.Recover
import Derived.Defers
set_option linter.unusedSimpArgs false
set_option linter.unusedVariables false
section
namespace Go.Proofs.YtkpppjhbmnfmkaaGreatDoor
open Go.RowKit Go.Own Go.Own.Cx
/-- Three headers of the table that stands. -/
def stat3 : Nat → Option Hd.HdrV
  | 3 => some ⟨⟨#[58, 109, 101, 116, 104, 111, 100]⟩, ⟨#[80, 79, 83, 84]⟩, false⟩
  | 6 => some ⟨⟨#[58, 115, 99, 104, 101, 109, 101]⟩, ⟨#[104, 116, 116, 112]⟩, false⟩
  | 4 => some ⟨⟨#[58, 112, 97, 116, 104]⟩, ⟨#[47]⟩, false⟩
  | _ => none
theorem Blk3 {w : World} {g : Nat} {t : TypeId} {cs : Array Value} (h : Blk w g t cs) (hs : cs.size = 3) (v0 v1 v2 : Value) : Blk (((w.setCell ⟨g, 0, none⟩ v0).setCell ⟨g, 1, none⟩ v1).setCell ⟨g, 2, none⟩ v2) g t #[v0, v1, v2] := by
  have e : (((cs.setIfInBounds 0 v0).setIfInBounds 1 v1).setIfInBounds 2 v2) = #[v0, v1, v2] := by
    apply Array.ext
    · simp [hs]
    · intro i h1 h2
      simp at h2
      have : i = 0 ∨ i = 1 ∨ i = 2 := by omega
      rcases this with rfl | rfl | rfl <;> simp [Array.getElem_setIfInBounds, hs]
  exact e ▸ ((h.put 0 v0).put 1 v1).put 2 v2
theorem below3 {B : Nat} {a w : World} {g : Nat} (h : Below B a w) (hg : B ≤ g) (v0 v1 v2 : Value) : Below B a (((w.setCell ⟨g, 0, none⟩ v0).setCell ⟨g, 1, none⟩ v1).setCell ⟨g, 2, none⟩ v2) :=
  ((h.setCell (p := ⟨g, 0, none⟩) hg v0).setCell (p := ⟨g, 1, none⟩) hg v1).setCell (p := ⟨g, 2, none⟩) hg v2
theorem results_static (tmps : Array Value) (w : World) (g : Nat) (a b c v : Value) (ht : tmps[2]? = some (.pointer (some ⟨g, 0, none⟩))) (h3 : tmps[3]? = some v) (hb : Blk w g 63 #[a, b, c]) :
    (results Tryz.f212 tmps).run Tryz.prog w = .ok (.tuple #[.agg #[a, b, c], v]) w := by
  have c0 : w.cell? ⟨g, 0, none⟩ = some a := hb.cell 0
  have c1 : w.cell? ⟨g, 1, none⟩ = some b := hb.cell 1
  have c2 : w.cell? ⟨g, 2, none⟩ = some c := hb.cell 2
  simp [results, Tryz.results212, go_sem, ht, h3, c0, c1, c2]
theorem results_tget (tmps : Array Value) (w : World) (g : Nat) (a b c v : Value) (ht : tmps[4]? = some (.pointer (some ⟨g, 0, none⟩))) (h3 : tmps[5]? = some v) (hb : Blk w g 63 #[a, b, c]) :
    (results Tryz.f170 tmps).run Tryz.prog w = .ok (.tuple #[.agg #[a, b, c], v]) w := by
  have c0 : w.cell? ⟨g, 0, none⟩ = some a := hb.cell 0
  have c1 : w.cell? ⟨g, 1, none⟩ = some b := hb.cell 1
  have c2 : w.cell? ⟨g, 2, none⟩ = some c := hb.cell 2
  simp [results, Tryz.results170, go_sem, ht, h3, c0, c1, c2]
theorem stat3_at {i : Nat} {h : Hd.HdrV} (hi : stat3 i = some h) : (i = 3 ∧ h = ⟨⟨#[58, 109, 101, 116, 104, 111, 100]⟩, ⟨#[80, 79, 83, 84]⟩, false⟩) ∨ (i = 6 ∧ h = ⟨⟨#[58, 115, 99, 104, 101, 109, 101]⟩, ⟨#[104, 116, 116, 112]⟩, false⟩) ∨ (i = 4 ∧ h = ⟨⟨#[58, 112, 97, 116, 104]⟩, ⟨#[47]⟩, false⟩) := by
  unfold stat3 at hi
  split at hi
  · exact .inl ⟨rfl, by simpa using hi.symm⟩
  · exact .inr (.inl ⟨rfl, by simpa using hi.symm⟩)
  · exact .inr (.inr ⟨rfl, by simpa using hi.symm⟩)
  · cases hi
/-- The lines of the table that stands, as far as they are looked at. -/
def StatL (L : List ByteArray) : Prop := L.length = 61 ∧ L[2]? = some ⟨#[58, 109, 101, 116, 104, 111, 100, 32, 80, 79, 83, 84]⟩ ∧ L[5]? = some ⟨#[58, 115, 99, 104, 101, 109, 101, 32, 104, 116, 116, 112]⟩ ∧ L[3]? = some ⟨#[58, 112, 97, 116, 104, 32, 47]⟩
/-- The lines of a text. -/
def lns : List UInt8 → List (List UInt8)
  | [] => [[]]
  | b :: l => if b = 10 then [] :: lns l else match lns l with
    | [] => [[b]]
    | x :: xs => (b :: x) :: xs
theorem lns_ne : ∀ l, lns l ≠ []
  | [] => by simp [lns]
  | b :: l => by
    unfold lns
    split
    · simp
    · split <;> simp
theorem lns_none : ∀ {l : List UInt8}, (10 : UInt8) ∉ l → lns l = [l]
  | [], _ => rfl
  | b :: l, h => by
    rw [List.mem_cons, not_or] at h
    rw [lns, if_neg (fun e => h.1 e.symm), lns_none h.2]
theorem lns_hit : ∀ {p : List UInt8} (r : List UInt8), (10 : UInt8) ∉ p → lns (p ++ 10 :: r) = p :: lns r
  | [], r, _ => by simp [lns]
  | b :: p, r, h => by
    rw [List.mem_cons, not_or] at h
    rw [List.cons_append, lns, if_neg (fun e => h.1 e.symm), lns_hit r h.2]
theorem idx_none : ∀ {l : List UInt8}, (10 : UInt8) ∉ l → Lib.index l [10] = -1
  | [], _ => rfl
  | b :: l, h => by
    rw [List.mem_cons, not_or] at h
    simp [Lib.index, h.1, idx_none h.2]
theorem idx_hit : ∀ {p : List UInt8} (r : List UInt8), (10 : UInt8) ∉ p → Lib.index (p ++ 10 :: r) [10] = (p.length : Nat)
  | [], r, _ => by simp [Lib.index]
  | b :: p, r, h => by
    rw [List.mem_cons, not_or] at h
    have hn : ¬ ((p.length : Int) = -1) := by omega
    simp [Lib.index, h.1, idx_hit r h.2, hn]
theorem split_at : ∀ (l : List UInt8), (10 : UInt8) ∉ l ∨ ∃ p r, l = p ++ 10 :: r ∧ (10 : UInt8) ∉ p
  | [] => .inl (by simp)
  | b :: l => by
    by_cases h : b = 10
    · exact .inr ⟨[], l, by rw [h]; rfl, by simp⟩
    · have hb : ¬ (10 : UInt8) = b := fun e => h e.symm
      rcases split_at l with h1 | ⟨p, r, e, hp⟩
      · exact .inl (by simp [h1, hb])
      · exact .inr ⟨b :: p, r, by rw [e]; rfl, by simp [hp, hb]⟩
theorem lns_split : ∀ (n : Nat) (l : List UInt8), l.length ≤ n → Lib.splitK [10] 0 (Lib.count l [10]) l = lns l ∧ Lib.count l [10] + 1 = (lns l).length
  | n, l, hn => by
    rcases split_at l with h | ⟨p, r, rfl, h⟩
    · rw [Lib.count_miss (idx_none h), lns_none h]
      exact ⟨rfl, rfl⟩
    · have hi := idx_hit r h
      have hc := Lib.count_hit (by simp) hi
      have hd : (p ++ 10 :: r).drop (p.length + [(10 : UInt8)].length) = r := by simp
      rw [hd] at hc
      match n, hn with
      | 0, hn => simp at hn
      | n + 1, hn =>
        obtain ⟨h1, h2⟩ := lns_split n r (by simp at hn; omega)
        have hne : ¬ ((p.length : Int) == -1) = true := by simp <;> omega
        rw [hc, lns_hit r h, Nat.add_comm 1, Lib.splitK, hi, if_neg hne]
        refine ⟨?_, by simp; omega⟩
        have e1 : ((p.length : Int)).toNat = p.length := by simp
        rw [e1, hd, h1]
        simp
theorem at_of {L : List ByteArray} {l : List UInt8} {k : Nat} (h : (L.map (·.data.toList))[k]? = some l) : L[k]? = some ⟨l.toArray⟩ := by
  rw [List.getElem?_map] at h
  cases hk : L[k]? with
  | none => rw [hk] at h; cases h
  | some x =>
    rw [hk] at h
    simp only [Option.map_some, Option.some.injEq] at h
    rw [← h]
theorem statL_of {s : ByteArray} (h1 : (lns s.data.toList).length = 61) (h2 : (lns s.data.toList)[2]? = some [58, 109, 101, 116, 104, 111, 100, 32, 80, 79, 83, 84])
    (h3 : (lns s.data.toList)[5]? = some [58, 115, 99, 104, 101, 109, 101, 32, 104, 116, 116, 112]) (h4 : (lns s.data.toList)[3]? = some [58, 112, 97, 116, 104, 32, 47]) : StatL (Lib.splitB ⟨#[10]⟩ 0 (Lib.countB s ⟨#[10]⟩) s) ∧ Lib.countB s ⟨#[10]⟩ + 1 = 61 := by
  obtain ⟨e1, e2⟩ := lns_split s.data.toList.length s.data.toList (Nat.le_refl _)
  have e3 : (Lib.splitB ⟨#[10]⟩ 0 (Lib.countB s ⟨#[10]⟩) s).map (·.data.toList) = lns s.data.toList := (Lib.splitB_data _ _ _ _).trans e1
  refine ⟨⟨?_, at_of (e3 ▸ h2), at_of (e3 ▸ h3), at_of (e3 ▸ h4)⟩, e2.trans h1⟩
  rw [← h1, ← e3, List.length_map]
set_option maxHeartbeats 2000000 in
set_option maxRecDepth 100000 in
theorem stands_any (w : World) (m : Int) (hm : w.cell? ⟨13, 0, none⟩ = some (.int .i64 m)) :
    Calls Tryz.prog 233 #[] w fun e w' => ∃ L, StatL L ∧ e = .returned (.slice (some ⟨w.heap.size, 0, none⟩) 61 61) ∧ w' = w.alloc (.cells (L.map Value.string).toArray 9) := by
  have HS := Lib.hid (fun (s : ByteArray) (hs : s.size < 4294967281) (h1 : (lns s.data.toList).length = 61) (h2 : (lns s.data.toList)[2]? = some [58, 109, 101, 116, 104, 111, 100, 32, 80, 79, 83, 84]) (h3 : (lns s.data.toList)[5]? = some [58, 115, 99, 104, 101, 109, 101, 32, 104, 116, 116, 112]) (h4 : (lns s.data.toList)[3]? = some [58, 112, 97, 116, 104, 32, 47]) =>
    (show Calls Tryz.prog 255 #[.string s, .string ⟨#[10]⟩] w fun e w' => ∃ L, StatL L ∧ e = .returned (.slice (some ⟨w.heap.size, 0, none⟩) 61 61) ∧ w' = w.alloc (.cells (L.map Value.string).toArray 9) from by
      obtain ⟨k1, k2⟩ := statL_of h1 h2 h3 h4
      refine (Tryz.strings_Split s ⟨#[10]⟩ m w hs hm (by decide)).mono ?_
      intro e w' h
      exact ⟨_, k1, by rw [h.1, k2], h.2⟩))
  go_enter Tryz.func233, Tryz.ntmps233
  go_wp2_with (first
    | (go_at_call 255
       refine Calls.mono (HS.out _ (of_decide_eq_true (by kernel_rfl)) (by kernel_rfl) (by kernel_rfl) (by kernel_rfl) (by kernel_rfl)) ?_
       rintro e w1 ⟨L, hL, rfl, hw⟩
       subst w1)
    | fail)
  go_ret
  exact ⟨L, hL, rfl, rfl⟩
set_option maxHeartbeats 4000000 in
set_option maxRecDepth 100000 in
theorem static_any (i : Nat) (h : Hd.HdrV) (hi : stat3 i = some h) (w : World) (m : Int) (hm : w.cell? ⟨13, 0, none⟩ = some (.int .i64 m)) :
    Calls Tryz.prog 212 #[.int .i64 (i : Nat)] w fun e w' => e = .returned (.tuple #[.agg (hdrC h), .bool true]) ∧ Below w.heap.size w w' := by
  have HB0 := Lib.hid ((Below.refl w.heap.size w).alloc (Nat.le_refl _) (.cells #[.string ⟨#[]⟩, .string ⟨#[]⟩, .bool false] 63))
  have HX := Lib.hid (Blk.new w 63 #[.string ⟨#[]⟩, .string ⟨#[]⟩, .bool false])
  have hg : 13 < w.heap.size := World.block_lt_of_cell? w _ hm
  have HM := Lib.hid (fun (W : World) (hb : Below w.heap.size w W) => (show W.cell? ⟨13, 0, none⟩ = some (.int .i64 m) from (World.cell?_of_block (hb.block _ hg)).trans hm))
  clear hm hg
  rcases stat3_at hi with ⟨rfl, rfl⟩ | ⟨rfl, rfl⟩ | ⟨rfl, rfl⟩
  all_goals
    clear hi
    go_enter Tryz.func212, Tryz.ntmps212
    go_upto_region 3 with fail
    generalize w.alloc (.cells #[.string ⟨#[]⟩, .string ⟨#[]⟩, .bool false] 63) = W0 at *
    have hm0 := HM.out W0 HB0.out
    go_wp2_with (first
      | (go_at_call 233
         refine Calls.mono (stands_any W0 m hm0) ?_
         rintro e w1 ⟨L, hL, rfl, hw⟩
         have HL := Lib.hid hL
         have HN := Lib.hid (Blk.new W0 9 (L.map Value.string).toArray)
         have HB1 := Lib.hid (HB0.out.alloc HB0.out.size (.cells (L.map Value.string).toArray 9))
         have k2 : w1.cell? ⟨W0.heap.size, 2, none⟩ = some (.string ⟨#[58, 109, 101, 116, 104, 111, 100, 32, 80, 79, 83, 84]⟩) := by
           rw [hw]; exact ((Blk.new W0 9 (L.map Value.string).toArray).cell 2).trans (by simp [hL.2.1])
         have k5 : w1.cell? ⟨W0.heap.size, 5, none⟩ = some (.string ⟨#[58, 115, 99, 104, 101, 109, 101, 32, 104, 116, 116, 112]⟩) := by
           rw [hw]; exact ((Blk.new W0 9 (L.map Value.string).toArray).cell 5).trans (by simp [hL.2.2.1])
         have k3 : w1.cell? ⟨W0.heap.size, 3, none⟩ = some (.string ⟨#[58, 112, 97, 116, 104, 32, 47]⟩) := by
           rw [hw]; exact ((Blk.new W0 9 (L.map Value.string).toArray).cell 3).trans (by simp [hL.2.2.2])
         rw [← hw] at HB1
         have hx1 : Blk w1 w.heap.size 63 #[.string ⟨#[]⟩, .string ⟨#[]⟩, .bool false] := hw ▸ HX.out.alloc _
         have hm1 := HM.out w1 HB1.out
         clear hL hw)
      | (go_at_call 232
         refine Calls.mono (Tryz.strings_Cut _ _ m _ (by decide) hm1) ?_
         rintro e w2 ⟨rfl, n, hw⟩
         subst w2
         have hx2 := hx1.drewN n
         have x0 := hx1.cell 0
         have x1 := hx1.cell 1
         have x2 := hx1.cell 2
         have xf := hx1.frozen 0
         have xf1 := hx1.frozen 1
         have xf2 := hx1.frozen 2
         simp only [List.getElem?_toArray, List.getElem?_cons_zero, List.getElem?_cons_succ] at x0 x1 x2)
      | fail)
    refine bodyPost_ret (results_static _ _ w.heap.size _ _ _ _ rfl rfl (Blk3 hx2 rfl _ _ _)) rfl ⟨by kernel_rfl, below3 (below_drewN HB1.out n) (Nat.le_refl _) _ _ _⟩
set_option maxHeartbeats 2000000 in
theorem tget_any (tv : Value) (i : Nat) (h : Hd.HdrV) (hi : stat3 i = some h) (w : World) (m : Int) (hm : w.cell? ⟨13, 0, none⟩ = some (.int .i64 m)) :
    Calls Tryz.prog 170 #[tv, .int .i64 (i : Nat)] w fun e w' => e = .returned (.tuple #[.agg (hdrC h), .bool true]) ∧ Below w.heap.size w w' := by
  have HB0 := Lib.hid ((Below.refl w.heap.size w).alloc (Nat.le_refl _) (.cells #[.string ⟨#[]⟩, .string ⟨#[]⟩, .bool false] 63))
  have HX := Lib.hid (Blk.new w 63 #[.string ⟨#[]⟩, .string ⟨#[]⟩, .bool false])
  have hg : 13 < w.heap.size := World.block_lt_of_cell? w _ hm
  have hm0 : (w.alloc (.cells #[.string ⟨#[]⟩, .string ⟨#[]⟩, .bool false] 63)).cell? ⟨13, 0, none⟩ = some (.int .i64 m) := (World.cell?_of_block (HB0.out.block _ hg)).trans hm
  have h61 : (i : Int) ≤ 61 := by
    rcases stat3_at hi with ⟨rfl, _⟩ | ⟨rfl, _⟩ | ⟨rfl, _⟩ <;> decide
  have HS := Lib.hid (static_any i h hi _ m hm0)
  have HZ := Lib.hid (show (w.alloc (.cells #[.string ⟨#[]⟩, .string ⟨#[]⟩, .bool false] 63)).heap.size = w.heap.size + 1 by simp)
  clear hm hg hm0 hi
  obtain ⟨hn, hv, hne⟩ := h
  simp only [hdrC] at HS ⊢
  go_enter Tryz.func170, Tryz.ntmps170
  go_upto_region 1 with fail
  generalize w.alloc (.cells #[.string ⟨#[]⟩, .string ⟨#[]⟩, .bool false] 63) = W0 at *
  go_wp2_with fail
  refine HS.out.mono ?_
  rintro e w1 ⟨rfl, hb⟩
  have HB1 := Lib.hid (HB0.out.trans (hb.mono HB0.out.size))
  have HX1 := Lib.hid (HX.out.below hb HX.out.lt)
  clear hb
  have x0 := HX1.out.cell 0
  have x1 := HX1.out.cell 1
  have x2 := HX1.out.cell 2
  have xf := HX1.out.frozen 0
  have xf1 := HX1.out.frozen 1
  have xf2 := HX1.out.frozen 2
  simp only [List.getElem?_toArray, List.getElem?_cons_zero, List.getElem?_cons_succ] at x0 x1 x2
  go_wp2
  refine bodyPost_ret (results_tget _ _ w.heap.size _ _ _ _ rfl rfl (Blk3 HX1.out rfl _ _ _)) rfl ⟨rfl, below3 HB1.out (Nat.le_refl _) _ _ _⟩
set_option maxHeartbeats 400000 in
theorem hgive_nil (w : World) : Calls Tryz.prog 242 #[.nilIface] w fun e w' => e = .returned (.tuple #[]) ∧ w' = w := by
  go_enter Tryz.func242, Tryz.ntmps242
  go_wp2
  go_end0
  exact ⟨rfl, rfl⟩
/-- A number that its first byte holds. -/
theorem int_small (A : Option Addr) (n c B : Nat) (x : UInt8) (l : List UInt8) (i : Nat) (w : World) (hr : Rd w B A n (x :: l)) (hx : x.toNat = 128 + i) (hi : stat3 i ≠ none) :
    Calls Tryz.prog 256 #[.slice A n c, .int .i64 7] w fun e w' => e = .returned (.tuple #[.int .i64 (i : Nat), .int .i64 1, .nilIface]) ∧ w' = w := by
  have hl := hr.1
  obtain ⟨ad, rfl, hb, h0⟩ := hr.at_ (k := 0) (by rw [← hl]; simp)
  have hn0 : ¬ (n : Int) = 0 := by rw [← hl]; simp; omega
  have hn1 : ((n : Int) == 0) = false := by simpa using hn0
  have hn2 : (0 : Int) < (n : Int) := by omega
  have h0 : w.cell? ad = some (.int .u8 (x.toNat : Int)) := h0
  have hx3 : i = 3 ∨ i = 6 ∨ i = 4 := by
    cases hs : stat3 i with
    | none => exact absurd hs hi
    | some h => rcases stat3_at hs with ⟨e, _⟩ | ⟨e, _⟩ | ⟨e, _⟩ <;> omega
  have b3 : bits .and .i64 131 127 = 3 := by decide
  have b6 : bits .and .i64 134 127 = 6 := by decide
  have b4 : bits .and .i64 132 127 = 4 := by decide
  clear hr hi
  rcases hx3 with rfl | rfl | rfl
  all_goals
    rw [hx] at h0
    simp only [Nat.reduceAdd, Int.cast_ofNat_Int] at h0
    clear hx
    go_enter Tryz.func256, Tryz.ntmps256
    go_wp2
    refine wp_scope_straight ?_
    go_wp2
    simp only [Exit.noGoto_ret]
    go_ret3
    exact ⟨rfl, rfl⟩
end Go.Proofs.YtkpppjhbmnfmkaaGreatDoor
end

section
namespace Go.Proofs.YtkpppjhbmnfmkaaGreatDoor
open Go.RowKit Go.Own Go.Own.Cx
attribute [local go_sem] Oper.semAt_some
/-- A block that is read: what is left of it, what has been told. -/
structure BK (w : World) (B g d : Nat) (A : Option Addr) (n c : Nat) (l : List UInt8) (ov : Value) (out : List Hd.HdrV) : Prop where
  blk : Blk w g 255 #[.pointer (some ⟨d, 0, none⟩), .slice A n c, ov, .int .i64 (hszs out : Nat)]
  hg : B ≤ g
  le : n ≤ c
  few : n ≤ 1000000
  rd_ : Rd w B A n l
  dec : ∃ tv lim gone, Blk w d 137 #[tv, lim, gone] ∧ d < B ∧ ∃ p, tv = .pointer (some p)
  out_ : Cm.Ew hdrC 63 3 w B ov out
  ne : ∀ j, ov.ownBlock = some j → j ≠ g
  max : ∃ m, w.cell? ⟨13, 0, none⟩ = some (.int .i64 m)
  maxB : 13 < B
section
variable {w w' : World} {B g d n c : Nat} {A : Option Addr} {l : List UInt8} {ov : Value} {out : List Hd.HdrV}
theorem BK.below (h : BK w B g d A n c l ov out) (hb : Below w.heap.size w w') (hB : B ≤ w.heap.size) : BK w' B g d A n c l ov out := by
  obtain ⟨tv, lim, gone, hd, hlt, hp⟩ := h.dec
  obtain ⟨m, hm⟩ := h.max
  exact ⟨h.blk.below hb h.blk.lt, h.hg, h.le, h.few, h.rd_.below (hb.mono hB), ⟨tv, lim, gone, hd.below hb (by omega), hlt, hp⟩, h.out_.below hb, h.ne, ⟨m, (World.cell?_of_block (hb.block _ (Nat.lt_of_lt_of_le h.maxB hB))).trans hm⟩, h.maxB⟩
theorem BK.cut (h : BK w B g d A (n + 1) c l ov out) {A' : Option Addr} {l' : List UInt8} (hr : Rd w B A' n l') (hB : B ≤ w.heap.size) :
    BK (w.setCell ⟨g, 1, none⟩ (.slice A' n (c - 1))) B g d A' n (c - 1) l' ov out ∧ Below B w (w.setCell ⟨g, 1, none⟩ (.slice A' n (c - 1))) := by
  obtain ⟨tv, lim, gone, hd, hlt, hp⟩ := h.dec
  obtain ⟨m, hm⟩ := h.max
  have hg := h.hg
  have hb : Below B w (w.setCell ⟨g, 1, none⟩ (.slice A' n (c - 1))) := (Below.refl B w).setCell (p := ⟨g, 1, none⟩) hg _
  refine ⟨⟨h.blk.put 1 _, hg, by have := h.le; omega, by have := h.few; omega, hr.below hb, ⟨tv, lim, gone, hd.below hb hlt, hlt, hp⟩, h.out_.grown (grown_setCell (World.grownBy.refl w (some g)) 1 _) (.inr fun e => h.ne g e rfl), h.ne, ⟨m, (World.cell?_of_block (hb.block _ h.maxB)).trans hm⟩, h.maxB⟩, hb⟩
end
set_option maxHeartbeats 2000000 in
/-- A number is taken off. -/
theorem hnum_any (w : World) (B g d : Nat) (A : Option Addr) (n c : Nat) (x : UInt8) (l : List UInt8) (ov : Value) (out : List Hd.HdrV) (i : Nat) (h : BK w B g d A (n + 1) c (x :: l) ov out) (hB : B ≤ w.heap.size) (hx : x.toNat = 128 + i) (hi : stat3 i ≠ none) :
    Calls Tryz.prog 238 #[.pointer (some ⟨g, 0, none⟩), .int .i64 7] w fun e w' => e = .returned (.int .i64 (i : Nat)) ∧ ∃ A', BK w' B g d A' n (c - 1) l ov out ∧ Below B w w' := by
  have HI := Lib.hid (int_small A (n + 1) c B x l i w h.rd_ hx hi)
  obtain ⟨A', hr', hcut⟩ := cut_from (P := Tryz.prog) (t := 22) (k := 1) byteP h.rd_ 1 rfl (by omega) h.le
  have HR := Lib.hid (h.cut hr' hB)
  have c1 : w.cell? ⟨g, 1, none⟩ = some (.slice A (n + 1) c) := h.blk.cell 1
  have f1 := h.blk.frozen 1
  clear h hr' hx hi
  simp only [Nat.add_sub_cancel] at hcut
  go_enter Tryz.func238, Tryz.ntmps238
  go_wp2_with (first
    | (go_at_call 256
       with_reducible refine Calls.mono HI.out ?_
       rintro e w1 ⟨rfl, hw⟩
       subst w1)
    | (go_at_call 242
       with_reducible refine Calls.mono (hgive_nil _) ?_
       rintro e w1 ⟨rfl, hw⟩
       subst w1)
    | fail)
  go_ret
  exact ⟨rfl, A', HR.out.1, HR.out.2⟩
theorem results_header (tmps : Array Value) (w : World) (g : Nat) (a b c : Value) (ht : tmps[4]? = some (.pointer (some ⟨g, 0, none⟩))) (hb : Blk w g 63 #[a, b, c]) :
    (results Tryz.f237 tmps).run Tryz.prog w = .ok (.agg #[a, b, c]) w := by
  have c0 : w.cell? ⟨g, 0, none⟩ = some a := hb.cell 0
  have c1 : w.cell? ⟨g, 1, none⟩ = some b := hb.cell 1
  have c2 : w.cell? ⟨g, 2, none⟩ = some c := hb.cell 2
  simp [results, Tryz.results237, go_sem, ht, c0, c1, c2]
set_option maxHeartbeats 2000000 in
/-- The header of an index. -/
theorem header_any (w : World) (B g d : Nat) (A : Option Addr) (n c : Nat) (l : List UInt8) (ov : Value) (out : List Hd.HdrV) (i : Nat) (hd : Hd.HdrV) (h : BK w B g d A n c l ov out) (hi : stat3 i = some hd) (hB : B ≤ w.heap.size) :
    Calls Tryz.prog 237 #[.pointer (some ⟨g, 0, none⟩), .int .i64 (i : Nat)] w fun e w' => e = .returned (.agg (hdrC hd)) ∧ Below w.heap.size w w' := by
  have HX := Lib.hid (Blk.new w 63 #[.string ⟨#[]⟩, .string ⟨#[]⟩, .bool false])
  have HB0 := Lib.hid ((Below.refl w.heap.size w).alloc (Nat.le_refl _) (.cells #[.string ⟨#[]⟩, .string ⟨#[]⟩, .bool false] 63))
  have hk := h.below HB0.out hB
  obtain ⟨tv, lim, gone, hdb, _, p, rfl⟩ := hk.dec
  obtain ⟨m, hm⟩ := hk.max
  have HG := Lib.hid (tget_any (.pointer (some p)) i hd hi _ m hm)
  have c0 : (w.alloc (.cells #[.string ⟨#[]⟩, .string ⟨#[]⟩, .bool false] 63)).cell? ⟨g, 0, none⟩ = some (.pointer (some ⟨d, 0, none⟩)) := hk.blk.cell 0
  have d0 : (w.alloc (.cells #[.string ⟨#[]⟩, .string ⟨#[]⟩, .bool false] 63)).cell? ⟨d, 0, none⟩ = some (.pointer (some p)) := hdb.cell 0
  clear h hk hdb hm hi hB
  obtain ⟨hn, hv, hne⟩ := hd
  simp only [hdrC] at HG ⊢
  go_enter Tryz.func237, Tryz.ntmps237
  go_upto_region 1 with fail
  generalize w.alloc (.cells #[.string ⟨#[]⟩, .string ⟨#[]⟩, .bool false] 63) = W0 at *
  go_wp2_with (first
    | (go_at_call 170
       with_reducible refine Calls.mono HG.out ?_
       rintro e w1 ⟨rfl, hb⟩
       have HB1 := Lib.hid (HB0.out.trans (hb.mono HB0.out.size))
       have HX1 := Lib.hid (HX.out.below hb HX.out.lt)
       have x0 := HX1.out.cell 0
       have x1 := HX1.out.cell 1
       have x2 := HX1.out.cell 2
       have xf := HX1.out.frozen 0
       have xf1 := HX1.out.frozen 1
       have xf2 := HX1.out.frozen 2
       have xl := HX1.out.lt
       have xne : ¬ w.heap.size = w1.heap.size := by omega
       have xne' : ¬ w1.heap.size = w.heap.size := by omega
       simp only [List.getElem?_toArray, List.getElem?_cons_zero, List.getElem?_cons_succ] at x0 x1 x2
       clear hb)
    | fail)
  refine bodyPost_ret (results_header _ _ w.heap.size _ _ _ rfl ((Blk3 HX1.out rfl _ _ _).alloc _)) rfl ⟨rfl, (below3 HB1.out (Nat.le_refl _) _ _ _).alloc (below3 HB1.out (Nat.le_refl _) _ _ _).size _⟩
theorem elH : Cm.ElP Tryz.prog hdrC 41 63 3 40 := by
  refine ⟨Tryz.underlying41, ?_, fun _ => rfl, ?_, by omega, by omega⟩
  · obtain ⟨i, hi, hz, h1, h2⟩ := info_parts hdrInfo
    exact ⟨i, _, hi, hz, h1, h2, rfl⟩
  · intro x u hu
    simp only [hdrC, List.mem_cons, List.not_mem_nil, or_false] at hu
    rcases hu with rfl | rfl | rfl <;> rfl
set_option maxHeartbeats 400000 in
theorem hsize_any (hn hv : ByteArray) (ne : Bool) (w : World) (h1 : hn.size ≤ 1000000) (h2 : hv.size ≤ 1000000) : Calls Tryz.prog 135 #[.agg #[.string hn, .string hv, .bool ne]] w fun e w' => e = .returned (.int .i64 (hn.size + hv.size + 32 : Nat)) ∧ w' = w.alloc (.cells #[.string hn, .string hv, .bool ne] 63) := by
  have e1 : wrap64 ((hn.size : Int) + hv.size) = (hn.size : Int) + hv.size := by unfold wrap64; omega
  have e3 : hv.size ≤ 1000000 := h2
  have e2 : wrap64 ((hn.size : Int) + hv.size + 32) = (hn.size : Int) + hv.size + 32 := by unfold wrap64; omega
  go_enter Tryz.func135, Tryz.ntmps135
  go_wp2
  go_ret
  exact ⟨by simp [e1, e2], rfl⟩
theorem BK.told {w W0 WA w8 : World} {B g d n c : Nat} {A : Option Addr} {l : List UInt8} {ov v8 : Value} {out : List Hd.HdrV} {hd : Hd.HdrV} (h : BK W0 B g d A n c l ov out) (h0 : Below B w W0) (hB : B ≤ W0.heap.size) {s2 : Nat} (hs2 : hszs (out ++ [hd]) = s2)
    (hblk : Blk WA g 255 #[.pointer (some ⟨d, 0, none⟩), .slice A n c, ov, .int .i64 (s2 : Nat)]) (hba : Below B W0 WA) (hown : Cm.Ew hdrC 63 3 w8 B v8 (out ++ [hd])) (hg : WA.grownBy w8 ov.ownBlock) (hv : v8.ownBlock = ov.ownBlock ∨ v8.ownBlock = some WA.heap.size) :
    BK (w8.setCell ⟨g, 2, none⟩ v8) B g d A n c l v8 (out ++ [hd]) ∧ Below B w (w8.setCell ⟨g, 2, none⟩ v8) := by
  obtain ⟨tv, lim, gone, hdb, hlt, hp⟩ := h.dec
  obtain ⟨m, hm⟩ := h.max
  have hgl := hblk.lt
  have hb8 : Below B W0 w8 := hba.grown hg (Nat.le_trans hB hba.size) fun k e => (h.out_.lt k e).1
  have hb9 : Below B W0 (w8.setCell ⟨g, 2, none⟩ v8) := hb8.setCell (p := ⟨g, 2, none⟩) h.hg _
  have hne : some g ≠ ov.ownBlock := fun e => h.ne g e.symm rfl
  have hn8 : ∀ j, v8.ownBlock = some j → j ≠ g := fun j e => by
    rcases hv with hv | hv
    · exact h.ne j (hv ▸ e)
    · rw [hv] at e; injection e with e; omega
  refine ⟨⟨?_, h.hg, h.le, h.few, h.rd_.below hb9, ⟨tv, lim, gone, hdb.below hb9 hlt, hlt, hp⟩, hown.grown (grown_setCell (World.grownBy.refl w8 (some g)) 2 _) (.inr fun e => hn8 g e rfl), hn8, ⟨m, (World.cell?_of_block (hb9.block _ h.maxB)).trans hm⟩, h.maxB⟩, h0.trans hb9⟩
  have h1 := (hblk.grown hg hne).put 2 v8
  simp only [List.setIfInBounds_toArray, List.set_cons_zero, List.set_cons_succ] at h1
  rw [hs2]
  exact h1
set_option maxHeartbeats 4000000 in
set_option maxRecDepth 100000 in
/-- A header is told. -/
theorem htell_any (w : World) (B g d : Nat) (A : Option Addr) (n c : Nat) (l : List UInt8) (ov : Value) (out : List Hd.HdrV) (hd : Hd.HdrV) (h : BK w B g d A n c l ov out) (hB : B ≤ w.heap.size) (h1 : hd.name.size ≤ 1000) (h2 : hd.value.size ≤ 1000) (h3 : hszs out ≤ 10000) (h4 : out.length ≤ 1000) :
    Calls Tryz.prog 236 #[.pointer (some ⟨g, 0, none⟩), .agg (hdrC hd)] w fun e w' => e = .returned (.tuple #[]) ∧ ∃ ov', BK w' B g d A n c l ov' (out ++ [hd]) ∧ Below B w w' := by
  have HX := Lib.hid (Blk.new w 63 (hdrC hd))
  have HB0 := Lib.hid ((Below.refl w.heap.size w).alloc (Nat.le_refl _) (.cells (hdrC hd) 63))
  have HK := Lib.hid (h.below HB0.out hB)
  obtain ⟨A0, c0, hov, _, _⟩ := h.out_.form
  have HZ := Lib.hid (show (w.alloc (.cells (hdrC hd) 63)).heap.size = w.heap.size + 1 by simp)
  have hgw := h.blk.lt
  obtain ⟨hn, hv, hne⟩ := hd
  simp only at h1 h2
  have HS := Lib.hid (fun W => hsize_any hn hv hne W (by omega) (by omega))
  have HSz := Lib.hid (show hszs (out ++ [⟨hn, hv, hne⟩]) = hszs out + (hn.size + hv.size + 32) by simp [hszs, hsz])
  clear h
  simp only [hdrC] at HX HB0 HK HZ ⊢
  have hw1 : IntKind.i64.wrap ((hszs out : Int) + ((hn.size + hv.size + 32 : Nat) : Int)) = ((hszs out + (hn.size + hv.size + 32) : Nat) : Int) := by rw [IntKind.wrap_i64]; omega
  have hw2 : ¬ (16384 : Int) < ((hszs out + (hn.size + hv.size + 32) : Nat) : Int) := by omega
  have g3 := HK.out.blk.cell 3
  simp only [List.getElem?_toArray, List.getElem?_cons_zero, List.getElem?_cons_succ] at g3
  have HG := Lib.hid (HK.out.blk.put 3 (.int .i64 ((hszs out + (hn.size + hv.size + 32) : Nat) : Int)))
  simp only [List.setIfInBounds_toArray, List.set_cons_zero, List.set_cons_succ] at HG
  generalize hszs out = so at *
  generalize hn.size + hv.size + 32 = sh at *
  generalize hs2 : so + sh = s2 at *
  go_enter Tryz.func236, Tryz.ntmps236
  go_upto_region 1 with fail
  generalize w.alloc (.cells #[.string hn, .string hv, .bool hne] 63) = W0 at *
  have gf := HK.out.blk.frozen 3
  have x0 := HX.out.cell 0
  have x1 := HX.out.cell 1
  have x2 := HX.out.cell 2
  simp only [List.getElem?_toArray, List.getElem?_cons_zero, List.getElem?_cons_succ] at x0 x1 x2
  have xl := HX.out.lt
  have gl := HK.out.blk.lt
  have HW2 := Lib.hid (show Blk ((W0.setCell ⟨g, 3, none⟩ (.int .i64 (s2 : Nat))).alloc (.cells #[.string hn, .string hv, .bool hne] 63)).drew g 255 #[.pointer (some ⟨d, 0, none⟩), .slice A n c, ov, .int .i64 (s2 : Nat)] ∧
      Below B W0 ((W0.setCell ⟨g, 3, none⟩ (.int .i64 (s2 : Nat))).alloc (.cells #[.string hn, .string hv, .bool hne] 63)).drew ∧
      Cm.Ew hdrC 63 3 ((W0.setCell ⟨g, 3, none⟩ (.int .i64 (s2 : Nat))).alloc (.cells #[.string hn, .string hv, .bool hne] 63)).drew B ov out ∧
      Blk ((W0.setCell ⟨g, 3, none⟩ (.int .i64 (s2 : Nat))).alloc (.cells #[.string hn, .string hv, .bool hne] 63)).drew w.heap.size 63 #[.string hn, .string hv, .bool hne] from
    ⟨HG.out.alloc _, below_drewN (((Below.refl B W0).setCell (p := ⟨g, 3, none⟩) HK.out.hg _).alloc (by simp [World.setCell]; omega) _) 1,
      (HK.out.out_.grown (grown_setCell (World.grownBy.refl W0 (some g)) 3 _) (.inr fun e => HK.out.ne g e rfl)).grown (grown_drewN (World.grownBy_alloc _ _ none) 1) (Cm.own_or _), (HX.out.far (p := ⟨g, 3, none⟩) (by simp; omega) _).alloc _⟩)
  go_region_with (first
    | (go_at_call 135
       with_reducible refine Calls.mono (HS.out _) ?_
       rintro e w1 ⟨rfl, hw⟩
       subst w1)
    | fail)
  all_goals
    generalize ((W0.setCell ⟨g, 3, none⟩ (.int .i64 (s2 : Nat))).alloc (.cells #[.string hn, .string hv, .bool hne] 63)).drew = W2 at *
    have c3 : W2.cell? ⟨g, 3, none⟩ = some (.int .i64 (s2 : Nat)) := HW2.out.1.cell 3
    have c2 : W2.cell? ⟨g, 2, none⟩ = some ov := HW2.out.1.cell 2
    rw [hov] at c2
    have z0 := HW2.out.2.2.2.cell 0
    have z1 := HW2.out.2.2.2.cell 1
    have z2 := HW2.out.2.2.2.cell 2
    simp only [List.getElem?_toArray, List.getElem?_cons_zero, List.getElem?_cons_succ] at z0 z1 z2
    have zl := HW2.out.2.2.2.lt
    have hl2 := HW2.out.1.lt
    clear g3 gf x0 x1 x2 xl gl
    have HO1 := Lib.hid (show Cm.Ew hdrC 63 3 (W2.drew.alloc (.cells #[.string hn, .string hv, .bool hne] 63)) B (.slice A0 out.length c0) out from hov ▸ HW2.out.2.2.1.grown (show W2.grownBy _ none from ⟨rfl, rfl, rfl, by simp, fun k hk _ => Below.heap_alloc W2.drew _ k hk⟩) (Cm.own_or _))
    have HR1 : Hid (Cm.RS hdrC 3 (W2.drew.alloc (.cells #[.string hn, .string hv, .bool hne] 63)) (W2.drew.alloc (.cells #[.string hn, .string hv, .bool hne] 63)).heap.size (some ⟨W2.heap.size, 0, none⟩) 1 [⟨hn, hv, hne⟩]) := Lib.hid (by
      have h := (Cm.Ew.lit (k := 3) hdrC 63 (fun _ => rfl) W2.drew [⟨hn, hv, hne⟩] (by simp)).rs (fun _ => rfl) (by omega)
      have e1 : (Cm.flat hdrC [⟨hn, hv, hne⟩]).toArray = #[.string hn, .string hv, .bool hne] := by simp [Cm.flat, hdrC]
      rw [e1] at h
      exact h)
    have HLn := Lib.hid (show out.length + 1 ≤ 1000000 by omega)
    have HBs := Lib.hid (show B ≤ (W2.drew.alloc (.cells #[.string hn, .string hv, .bool hne] 63)).heap.size by have := HW2.out.2.1.size; simp; omega)
    go_wp2_with fail
    go_region_law
      ((refine Cm.step_app_e elH _ (by rfl) (.tmp 24) (.tmp 26) (by rfl) B (.slice A0 out.length c0) out (by rfl) HO1.out _ (some ⟨W2.heap.size, 0, none⟩) 1 1 [⟨hn, hv, hne⟩] (by rfl) HR1.out HLn.out HBs.out ?_
        intro A8 c8 w8 hown8 hgr8 hov8
        have HG8 := Lib.hid hgr8
        have HO8 := Lib.hid hown8
        have HV8 := Lib.hid hov8
        have hP8 := ((show Blk W2.drew g 255 #[.pointer (some ⟨d, 0, none⟩), .slice A n c, ov, .int .i64 (s2 : Nat)] from HW2.out.1).alloc (.cells #[.string hn, .string hv, .bool hne] 63)).grown hgr8 (fun e => HK.out.ne g (hov ▸ e.symm) rfl)
        have hf8 : w8.frozen? ⟨g, 2, none⟩ = false := hP8.frozen 2
        have hc8 : w8.cell? ⟨g, 2, none⟩ = some ov := hP8.cell 2
        clear hP8 hown8 hgr8 hov8))
  all_goals
    go_wp2
    go_end0
    have hT := HK.out.told (HB0.out.mono hB) (by have := HB0.out.size; omega) HSz.out (WA := W2.drew.alloc (.cells #[.string hn, .string hv, .bool hne] 63)) ((show Blk W2.drew g 255 #[.pointer (some ⟨d, 0, none⟩), .slice A n c, ov, .int .i64 (s2 : Nat)] from HW2.out.1).alloc _) ((below_drewN HW2.out.2.1 1).alloc (by have := HW2.out.2.1.size; have := HB0.out.size; show B ≤ W2.heap.size; omega) _) HO8.out (hov ▸ HG8.out) (hov ▸ HV8.out)
    exact ⟨rfl, _, hT.1, hT.2⟩
end Go.Proofs.YtkpppjhbmnfmkaaGreatDoor
end

section
namespace Go.Proofs.YtkpppjhbmnfmkaaGreatDoor
open Go.RowKit Go.Own Go.Own.Cx
theorem stat3_small {i : Nat} {h : Hd.HdrV} (hi : stat3 i = some h) : h.name.size ≤ 20 ∧ h.value.size ≤ 20 ∧ hsz h ≤ 100 ∧ 128 + i < 256 ∧ bits .and .u8 ((128 + i : Nat) : Int) 128 = 128 := by
  rcases stat3_at hi with ⟨rfl, rfl⟩ | ⟨rfl, rfl⟩ | ⟨rfl, rfl⟩ <;> refine ⟨by decide, by decide, by decide, by decide, by decide⟩
set_option maxHeartbeats 1000000 in
theorem kind1_any (w : World) (B g d : Nat) (A : Option Addr) (n c : Nat) (x : UInt8) (l : List UInt8) (ov : Value) (out : List Hd.HdrV) (i : Nat) (hd : Hd.HdrV) (h : BK w B g d A (n + 1) c (x :: l) ov out) (hB : B ≤ w.heap.size) (hx : x.toNat = 128 + i) (hi : stat3 i = some hd) (h3 : hszs out ≤ 10000) (h4 : out.length ≤ 100) :
    Calls Tryz.prog 235 #[.pointer (some ⟨g, 0, none⟩)] w fun e w' => e = .returned (.tuple #[]) ∧ ∃ A' ov', BK w' B g d A' n (c - 1) l ov' (out ++ [hd]) ∧ Below B w w' := by
  have HN := Lib.hid (hnum_any w B g d A n c x l ov out i h hB hx (by rw [hi]; simp))
  have HH := Lib.hid (fun W A c (h : BK W B g d A n c l ov out) (hB : B ≤ W.heap.size) => header_any W B g d A n c l ov out i hd h hi hB)
  have hs := stat3_small hi
  have HT := Lib.hid (fun W A c (h : BK W B g d A n c l ov out) (hB : B ≤ W.heap.size) => htell_any W B g d A n c l ov out hd h hB (by omega) (by omega) h3 (by omega))
  have HB := Lib.hid hB
  clear h hx hi h3 h4 hs hB
  obtain ⟨hn, hv, hne⟩ := hd
  simp only [hdrC] at HH HT
  go_enter Tryz.func235, Tryz.ntmps235
  go_wp2_with (first
    | (go_at_call 238
       with_reducible refine Calls.mono HN.out ?_
       rintro e w1 ⟨rfl, A1, hk1, hb1⟩
       have HK1 := Lib.hid hk1
       have HB1 := Lib.hid hb1
       have HS1 := Lib.hid (Nat.le_trans HB.out hb1.size)
       clear hk1 hb1)
    | (go_at_call 237
       with_reducible refine Calls.mono (HH.out _ _ _ HK1.out HS1.out) ?_
       rintro e w2 ⟨rfl, hb2⟩
       have HK2 := Lib.hid (HK1.out.below hb2 HS1.out)
       have HB2 := Lib.hid (HB1.out.trans (hb2.mono HS1.out))
       have HS2 := Lib.hid (Nat.le_trans HB.out HB2.out.size)
       clear hb2)
    | (go_at_call 236
       with_reducible refine Calls.mono (HT.out _ _ _ HK2.out HS2.out) ?_
       rintro e w3 ⟨rfl, ov3, hk3, hb3⟩
       have HK3 := Lib.hid hk3
       have HB3 := Lib.hid (HB2.out.trans hb3)
       clear hk3 hb3)
    | fail)
  go_end0
  exact ⟨rfl, A1, ov3, HK3.out, HB3.out⟩
/-- The kinds, as they lie. -/
def kindC : Array Value := #[.int .u8 128, .int .u8 128, .func (.func 235) #[] #[], .int .u8 192, .int .u8 64, .func (.func 239) #[] #[], .int .u8 224, .int .u8 32, .func (.func 241) #[] #[], .int .u8 240, .int .u8 16, .func (.func 243) #[] #[], .int .u8 240, .int .u8 0, .func (.func 244) #[] #[]]
set_option maxHeartbeats 1000000 in
theorem kinds_any (w : World) : Calls Tryz.prog 218 #[] w fun e w' => e = .returned (.slice (some ⟨w.heap.size, 0, none⟩) 5 5) ∧ w' = w.alloc (.cells kindC 260) := by
  go_enter Tryz.func218, Tryz.ntmps218
  go_wp2
  go_ret
  exact ⟨rfl, rfl⟩
set_option maxHeartbeats 1000000 in
/-- The deferred function finds nothing. -/
theorem decode1_idle (a b c : Addr) (w : World) :
    CallsD Tryz.prog 216 #[.pointer (some a), .pointer (some b), .pointer (some c)] .returning w fun e u' w' => e = .returned (.tuple #[]) ∧ u' = .returning ∧ w' = w := by
  refine callsD_of_wpS Tryz.func216 rfl fun c₀ cs hu => ?_
  apply wpS_seq
  apply wpS_region
  simp [wpOpsS, go_sem, recoverD, hu, Tryz.ntmps216, Exit.thenS]
  apply wpS_seq
  apply wpS_region
  simp [wpOpsS, go_sem, Exit.thenS]
  refine wpS_cond (t := false) (by simp [Act.eval, Array.replicate]) ?_
  simp only [Bool.false_eq_true, if_false]
  refine wpS_of_wp (wp_skip ?_)
  cases c₀
  simp_all [bodyPostS, results, Tryz.results216]
end Go.Proofs.YtkpppjhbmnfmkaaGreatDoor
end

section
namespace Go.Proofs.YtkpppjhbmnfmkaaGreatDoor
open Go.RowKit Go.Own Go.Own.Cx
/-- A block of indexes that stand, and its headers. -/
def Ix : List UInt8 → List Hd.HdrV → Prop
  | [], [] => True
  | x :: l, h :: hs => (∃ i, x.toNat = 128 + i ∧ stat3 i = some h) ∧ Ix l hs
  | _, _ => False
theorem Ix.len : ∀ {l : List UInt8} {hs : List Hd.HdrV}, Ix l hs → l.length = hs.length
  | [], [], _ => rfl
  | _ :: l, _ :: hs, h => by simp [Ix.len (l := l) (hs := hs) h.2]
  | [], _ :: _, h => h.elim
  | _ :: _, [], h => h.elim
theorem Ix.at_ {l : List UInt8} {hs : List Hd.HdrV} {n : Nat} (h : Ix l hs) (hn : l.length = n + 1) : ∃ x l' hd hs' i, l = x :: l' ∧ hs = hd :: hs' ∧ x.toNat = 128 + i ∧ stat3 i = some hd ∧ Ix l' hs' ∧ l'.length = n := by
  match l, hs, h with
  | [], _, _ => simp at hn
  | x :: l', hd :: hs', ⟨⟨i, h1, h2⟩, h3⟩ => exact ⟨x, l', hd, hs', i, rfl, rfl, h1, h2, h3, by simpa using hn⟩
  | _ :: _, [], h => exact h.elim
/-- While a block is read. -/
structure DJ (W wr : World) (B g d : Nat) (hs : List Hd.HdrV) (A : Option Addr) (n c : Nat) (l : List UInt8) (ov : Value) (done rest : List Hd.HdrV) : Prop where
  bk : BK wr B g d A n c l ov done
  ix : Ix l rest
  all_ : done ++ rest = hs
  sz : hszs done ≤ 100 * done.length
  ln : done.length + n ≤ 100
  low : Below B W wr
  hB : B ≤ wr.heap.size
def DI (W : World) (B g d : Nat) (hs : List Hd.HdrV) (wr : World) : Prop := ∃ A n c l ov done rest, DJ W wr B g d hs A n c l ov done rest
def lenK (w : World) (g : Nat) : Nat := match w.cell? ⟨g, 1, none⟩ with | some (.slice _ n _) => n | _ => 0
theorem lenK_of {w : World} {g n c : Nat} {A : Option Addr} (h : w.cell? ⟨g, 1, none⟩ = some (.slice A n c)) : lenK w g = n := by rw [lenK, h]
theorem results_decode (tmps : Array Value) (w : World) (g1 g2 : Nat) (a b : Value) (h4 : tmps[4]? = some (.pointer (some ⟨g1, 0, none⟩))) (h5 : tmps[5]? = some (.pointer (some ⟨g2, 0, none⟩))) (c1 : w.cell? ⟨g1, 0, none⟩ = some a) (c2 : w.cell? ⟨g2, 0, none⟩ = some b) :
    (results Tryz.f194 tmps).run Tryz.prog w = .ok (.tuple #[a, b]) w := by
  simp [results, Tryz.results194, go_sem, h4, h5, c1, c2]
set_option maxHeartbeats 8000000 in
set_option maxRecDepth 100000 in
theorem decode_any (w : World) (d p : Nat) (lim : Value) (A : Option Addr) (n c B0 : Nat) (l : List UInt8) (hs : List Hd.HdrV) (m : Int) (hd : Blk w d 137 #[.pointer (some ⟨p, 0, none⟩), lim, .bool false]) (hr : Rd w B0 A n l) (hB : B0 ≤ w.heap.size) (hc : n ≤ c) (hn : n ≤ 100) (hix : Ix l hs)
    (hm : w.cell? ⟨13, 0, none⟩ = some (.int .i64 m)) :
    Calls Tryz.prog 194 #[.pointer (some ⟨d, 0, none⟩), .slice A n c] w fun e w' => ∃ A' c', e = .returned (.tuple #[.slice A' hs.length c', .nilIface]) ∧ hs.length ≤ c' ∧ Cm.RS hdrC 3 w' w'.heap.size A' hs.length hs ∧ (0 < hs.length → ∀ ad, A' = some ad → w.heap.size ≤ ad.block) ∧ Below w.heap.size w w' := by
  have hmf : ∀ (fn : Fn) (first cap : Array Value) (w : World), (Instr.makeFunc fn first cap).run Tryz.prog w = .ok (.func fn first cap) w := fun _ _ _ _ => rfl
  have hg := World.block_lt_of_cell? w _ hm
  have HB0 := Lib.hid (((((Below.refl w.heap.size w).alloc (Nat.le_refl _) (.cells #[.pointer (some ⟨d, 0, none⟩)] 78)).alloc (by simp) (.cells #[.slice none 0 0] 41))).alloc (by simp; omega) (.cells #[.nilIface] 28))
  have X0 := Lib.hid (((Blk.new w 78 #[.pointer (some ⟨d, 0, none⟩)]).alloc (.cells #[.slice none 0 0] 41)).alloc (.cells #[.nilIface] 28))
  have X1 := Lib.hid ((Blk.new (w.alloc (.cells #[.pointer (some ⟨d, 0, none⟩)] 78)) 41 #[.slice none 0 0]).alloc (.cells #[.nilIface] 28))
  have X2 := Lib.hid (Blk.new ((w.alloc (.cells #[.pointer (some ⟨d, 0, none⟩)] 78)).alloc (.cells #[.slice none 0 0] 41)) 28 #[.nilIface])
  have HZ := Lib.hid (show (((w.alloc (.cells #[.pointer (some ⟨d, 0, none⟩)] 78)).alloc (.cells #[.slice none 0 0] 41)).alloc (.cells #[.nilIface] 28)).heap.size = w.heap.size + 1 + 1 + 1 by simp)
  have HD := Lib.hid (hd.below HB0.out hd.lt)
  have HR := Lib.hid ((hr.more hB).below HB0.out)
  have HM := Lib.hid (show _ = some (.int .i64 m) from (World.cell?_of_block (a := ⟨13, 0, none⟩) (HB0.out.block _ hg)).trans hm)
  have HI := Lib.hid hix
  have hlen := hr.1
  have hdl := hd.lt
  clear hd hr hm hix
  simp only [World.size_alloc] at X1 X2
  go_enter_defers Tryz.func194, Tryz.ntmps194
  go_upto_region 1 with fail
  generalize ((w.alloc (.cells #[.pointer (some ⟨d, 0, none⟩)] 78)).alloc (.cells #[.slice none 0 0] 41)).alloc (.cells #[.nilIface] 28) = W0 at *
  have d2 : W0.cell? ⟨d, 2, none⟩ = some (.bool false) := HD.out.cell 2
  have x0 := X0.out.cell 0
  simp only [List.getElem?_toArray, List.getElem?_cons_zero, List.getElem?_cons_succ] at x0
  go_wp2_with fail
  have hz := HZ.out
  have HDI := Lib.hid (show DI (W0.alloc (.cells #[.pointer (some ⟨d, 0, none⟩), .slice A n c, .slice none 0 0, .int .i64 0] 255)) W0.heap.size W0.heap.size d hs (W0.alloc (.cells #[.pointer (some ⟨d, 0, none⟩), .slice A n c, .slice none 0 0, .int .i64 0] 255)) from
    ⟨A, n, c, l, .slice none 0 0, [], hs, ⟨⟨Blk.new W0 _ _, Nat.le_refl _, hc, by omega, (HR.out.more (by omega)).alloc (Nat.le_refl _) _, ⟨_, _, _, HD.out.alloc _, by omega, ⟨p, 0, none⟩, rfl⟩, Cm.Ew.nil _ _ _ _ _, (fun j e => by cases e), ⟨m, (World.cell?_of_block (((Below.refl W0.heap.size W0).alloc (Nat.le_refl _) _).block _ (by show 13 < _; omega))).trans HM.out⟩, by omega⟩,
      HI.out, rfl, Nat.le_refl _, by simp; omega, Below.refl _ _, by simp⟩⟩)
  have Y1 := Lib.hid (X1.out.alloc (.cells #[.pointer (some ⟨d, 0, none⟩), .slice A n c, .slice none 0 0, .int .i64 0] 255))
  have Y2 := Lib.hid (X2.out.alloc (.cells #[.pointer (some ⟨d, 0, none⟩), .slice A n c, .slice none 0 0, .int .i64 0] 255))
  have HBw := Lib.hid (HB0.out.alloc HB0.out.size (.cells #[.pointer (some ⟨d, 0, none⟩), .slice A n c, .slice none 0 0, .int .i64 0] 255))
  generalize W0.alloc (.cells #[.pointer (some ⟨d, 0, none⟩), .slice A n c, .slice none 0 0, .int .i64 0] 255) = W1 at *
  have hgG : w.heap.size + 1 + 1 < W0.heap.size := by omega
  clear d2 x0 hz HZ
  generalize W0.heap.size = G at *
  go_loopw [24] (fun _ wr => DI W1 G G d hs wr) (fun _ wr => lenK wr G)
  case atStart => exact HDI.out
  case round =>
    obtain ⟨A1, n1, c1, l1, ov1, done, rest, hj⟩ := hrel
    have HJ := Lib.hid hj
    have k1 : wr.cell? ⟨G, 1, none⟩ = some (.slice A1 n1 c1) := hj.bk.blk.cell 1
    have hmu : lenK wr G = n1 := lenK_of k1
    obtain ⟨Ao, co, hov, hle, _⟩ := hj.bk.out_.form
    have k2 : wr.cell? ⟨G, 2, none⟩ = some ov1 := hj.bk.blk.cell 2
    rw [hov] at k2
    have z1 : Blk wr (w.heap.size + 1) 41 #[.slice none 0 0] := Y1.out.below hj.low (by omega)
    have z2 : Blk wr (w.heap.size + 1 + 1) 28 #[.nilIface] := Y2.out.below hj.low (by omega)
    have HZ1 := Lib.hid z1
    have HZ2 := Lib.hid z2
    clear hj
    cases n1 with
    | zero =>
      have y1 := z1.cell 0
      have y2 := z2.cell 0
      have f1 := z1.frozen 0
      have f2 := z2.frozen 0
      simp only [List.getElem?_toArray, List.getElem?_cons_zero] at y1 y2
      go_wp2
      refine leaves_cons (f := 216) (args := #[.pointer (some ⟨w.heap.size, 0, none⟩), .pointer (some ⟨w.heap.size + 1, 0, none⟩), .pointer (some ⟨w.heap.size + 1 + 1, 0, none⟩)]) (by simp) (by simp [go_sem]) ?_
      refine (decode1_idle _ _ _ _).mono ?_
      rintro e u' w'' ⟨rfl, rfl, rfl⟩
      have hr0 : rest = [] := by
        have h1 := HJ.out.ix.len
        have h2 := HJ.out.bk.rd_.1
        exact List.eq_nil_of_length_eq_zero (by omega)
      have hdone : done = hs := by
        have h1 := HJ.out.all_
        rw [hr0, List.append_nil] at h1
        exact h1
      subst hdone
      have hG2 : wr.heap.size = ((wr.setCell ⟨w.heap.size + 1, 0, none⟩ (.slice Ao done.length co)).setCell ⟨w.heap.size + 1 + 1, 0, none⟩ .nilIface).heap.size := by simp [World.setCell]
      have hEw := HJ.out.bk.out_
      rw [hov] at hEw
      have hRS := hEw.rs (fun _ => rfl) (by omega)
      have hfrom := hEw.from
      refine ⟨_, results_decode _ _ (w.heap.size + 1) (w.heap.size + 1 + 1) _ _ rfl rfl (((HZ1.out.put 0 _).far (p := ⟨w.heap.size + 1 + 1, 0, none⟩) (by simp) _).cell 0) (((HZ2.out.far (p := ⟨w.heap.size + 1, 0, none⟩) (by simp) _).put 0 _).cell 0), Ao, co, rfl, hle, ?_, fun _ ad e => by have := hfrom ad e; omega, ?_⟩
      · rw [← hG2]
        exact (hRS.setCell (fun ad e => by have := hfrom ad e; simp; omega) _).setCell (fun ad e => by have := hfrom ad e; simp; omega) _
      · exact ((HBw.out.trans (HJ.out.low.mono (by omega))).setCell (p := ⟨w.heap.size + 1, 0, none⟩) (by simp) _).setCell (p := ⟨w.heap.size + 1 + 1, 0, none⟩) (by simp; omega) _
    | succ k =>
      obtain ⟨x, l', hdv, hs', i, rfl, rfl, hx, hi, hix', hl'⟩ := HJ.out.ix.at_ HJ.out.bk.rd_.1
      obtain ⟨ad, hA, hab, hcell⟩ := HJ.out.bk.rd_.at_ (k := 0) (by omega)
      subst hA
      have hcell : wr.cell? ad = some (.int .u8 (x.toNat : Int)) := hcell
      rw [hx] at hcell
      have HSm := Lib.hid (stat3_small hi)
      have HX := Lib.hid hx
      have HIi := Lib.hid hi
      have HIx := Lib.hid hix'
      have hbit : bits .and .u8 ((128 + i : Nat) : Int) 128 = 128 := (stat3_small hi).2.2.2.2
      have hGw := HJ.out.hB
      have HB1 := Lib.hid ((Below.refl wr.heap.size wr).alloc (Nat.le_refl _) (.cells kindC 260))
      have HQ := Lib.hid (Blk.new wr 260 kindC)
      clear hx hi hix' hov
      generalize hxi : ((128 + i : Nat) : Int) = xi at *
      go_wp2_with (first
        | (go_at_call 218
           refine Calls.mono (kinds_any _) ?_
           rintro e w1 ⟨rfl, hw⟩
           rw [← hw] at HB1 HQ
           clear hw)
        | fail)
      have HK1 := Lib.hid (HJ.out.bk.below HB1.out hGw)
      have q0 : w1.cell? ⟨wr.heap.size, 0, none⟩ = some (.int .u8 128) := HQ.out.cell 0
      have q1 : w1.cell? ⟨wr.heap.size, 1, none⟩ = some (.int .u8 128) := HQ.out.cell 1
      have q2 : w1.cell? ⟨wr.heap.size, 2, none⟩ = some (.func (.func 235) #[] #[]) := HQ.out.cell 2
      have HX3 := Lib.hid (Blk.new w1 260 #[.int .u8 128, .int .u8 128, .func (.func 235) #[] #[]])
      have HB2 := Lib.hid ((Below.refl w1.heap.size w1).alloc (Nat.le_refl _) (.cells #[.int .u8 128, .int .u8 128, .func (.func 235) #[] #[]] 260))
      have hGw1 := Lib.hid (Nat.le_trans hGw HB1.out.size)
      have HC1 := Lib.hid (show w1.cell? ad = _ from (World.cell?_of_block (HB1.out.block _ (by omega))).trans hcell)
      have ql := HQ.out.lt
      clear hcell k1 k2
      go_loop [27] (fun t => t = .int .i64 0) (fun _ => 0)
      case atStart => rfl
      case round =>
        obtain rfl := hrel
        go_upto_region 9 with fail
        have HK2 := Lib.hid (fun j => HK1.out.below (below_drewN HB2.out j) hGw1.out)
        have kc : (w1.alloc (.cells #[.int .u8 128, .int .u8 128, .func (.func 235) #[] #[]] 260)).cell? ad = some (.int .u8 xi) := (World.cell?_of_block (HB2.out.block _ (by have := hGw1.out; omega))).trans HC1.out
        generalize w1.alloc (.cells #[.int .u8 128, .int .u8 128, .func (.func 235) #[] #[]] 260) = W2 at *
        have v0 : W2.cell? ⟨w1.heap.size, 0, none⟩ = some (.int .u8 128) := HX3.out.cell 0
        have v1 : W2.cell? ⟨w1.heap.size, 1, none⟩ = some (.int .u8 128) := HX3.out.cell 1
        have v2 : W2.cell? ⟨w1.heap.size, 2, none⟩ = some (.func (.func 235) #[] #[]) := HX3.out.cell 2
        have k1 : W2.cell? ⟨G, 1, none⟩ = some (.slice (some ad) (k + 1) c1) := (HK2.out 0).blk.cell 1
        clear q0 q1 q2 ql
        go_quiet (fail)
        go_wp2_with (first
          | (go_at_call 235
             refine Calls.mono (kind1_any _ G G d (some ad) k c1 x l' ov1 done i hdv (HK2.out _) ?_ HX.out HIi.out ?_ ?_) ?_
             · have := hGw1.out; have := HB2.out.size; show G ≤ W2.heap.size; omega
             · have := HJ.out.sz; have := HJ.out.ln; omega
             · have := HJ.out.ln; omega
             rintro e w3 ⟨rfl, A3, ov3, hk3, hb3⟩
             have HK3 := Lib.hid hk3
             have HB3 := Lib.hid (show Below G w1 w3 from (below_drewN (HB2.out.mono hGw1.out) _).trans hb3)
             clear hk3 hb3)
          | fail)
        have hsz := HSm.out.2.2.1
        have hl3 : hszs (done ++ [hdv]) = hszs done + Go.Own.Cx.hsz hdv := by simp [hszs]
        have h1 := HJ.out.sz
        have h2 := HJ.out.ln
        have hs1 := HB1.out.size
        refine ⟨⟨A3, k, c1 - 1, l', ov3, done ++ [hdv], hs', HK3.out, HIx.out, ?_, ?_, ?_, (HJ.out.low.trans (HB1.out.mono hGw)).trans HB3.out, ?_⟩, ?_⟩
        · rw [List.append_assoc]; exact HJ.out.all_
        · rw [hl3, List.length_append, List.length_singleton]; omega
        · rw [List.length_append, List.length_singleton]; omega
        · have := HB3.out.size; have := hGw1.out; omega
        · rw [lenK_of (HK3.out.blk.cell 1), hmu]; omega
end Go.Proofs.YtkpppjhbmnfmkaaGreatDoor
end
