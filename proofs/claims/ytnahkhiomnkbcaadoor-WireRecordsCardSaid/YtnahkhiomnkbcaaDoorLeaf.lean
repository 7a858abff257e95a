/-
  Contracts: wire.Unfixed and the ways of the kinds that hold no records.
-/
import Derived.Test.YtnahkhiomnkbcaaDoorWays
namespace Go.Proofs.YtnahkhiomnkbcaaDoor
open Go.RowKit Go.Own Go.Own.Wire

/-- Bytes of a fixed length. -/
def fixd (k : Nat) (l : List UInt8) : Except Nat (Nat × Nat) := if l.length < k then .error 101 else .ok (le k l, k)

set_option maxHeartbeats 400000 in
set_option maxRecDepth 100000 in
theorem unfixed_4 (A : Option Addr) (n c : Nat) (l : List UInt8) (w : World) (ea : Nat → Addr) (B : Nat) (he : Env w ea) (hr : Rd w B A n l) (hn : n ≤ 1000000000000) :
    Calls Tryd.prog 20 #[.slice A n c, .int .i64 4] w fun e w' => e = .returned (uvRes ea (fixd 4 l)) ∧ ∃ m, w' = w.drewN m := by
  have h2 := he.end_
  clear he
  have hl := hr.len
  by_cases hlt : n < 4
  · have HF : Hid (fixd 4 l = .error 101) := by unfold fixd; rw [if_pos (by omega)]; exact Lib.hid rfl
    clear hl hr
    go_enter Tryd.func20, Tryd.ntmps20
    go_wp2
    go_region
    go_wp2
    go_ret3
    exact ⟨by rw [HF.out]; rfl, 1, rfl⟩
  · have HF : Hid (fixd 4 l = .ok (le 4 l, 4)) := by unfold fixd; rw [if_neg (by omega)]; exact Lib.hid rfl
    have HL := Lib.hid hl; clear hl
    have hd : decide ((n : Int) < 4) = false := by simp; omega
    go_enter Tryd.func20, Tryd.ntmps20
    go_wp2
    go_loop [7, 8, 22] (fun u _ i => ∃ j x : Nat, j ≤ 4 ∧ i = .int .i64 j ∧ u = .int .u64 (x : Int) ∧ x = le j l) (fun _ _ i => 4 - (intOf i).toNat)
    case atStart => exact ⟨0, 0, by omega, rfl, rfl, by simp [le, leF]⟩
    case round =>
      obtain ⟨j, x, hj, rfl, rfl, hx⟩ := hrel
      by_cases hjl : j < 4
      · obtain ⟨ad, rfl, hb, hc⟩ := hr.at_ (show j < n by omega)
        have hs0 : 0 ≤ 8 * (j : Int) := by omega
        have hs1 : 8 * (j : Int) ≤ 64 := by omega
        have HS := Lib.hid (le_step l j (by rw [HL.out]; omega))
        have hy : (l.getD j 0).toNat < 256 := (l.getD j 0).toNat_lt
        generalize (l.getD j 0).toNat = y at hc hy HS
        have HB := Lib.hid (bits_u64_or8 x y j hy (by omega) (by rw [hx]; exact le_lt l j))
        have HX := Lib.hid hx; clear hx hr
        go_wp2
        go_round
        case rel => exact ⟨j + 1, x + y * 2 ^ (8 * j), by omega, by go_num, by rw [HB.out], by rw [HS.out, HX.out]⟩
        case measure => simp [intOf]; omega
      · have HJ := Lib.hid (show j = 4 by omega)
        have HX := Lib.hid hx; clear hx hr
        go_wp2
        go_ret3
        exact ⟨by rw [HF.out, HX.out, HJ.out]; rfl, 0, rfl⟩

set_option maxHeartbeats 400000 in
set_option maxRecDepth 100000 in
theorem unfixed_8 (A : Option Addr) (n c : Nat) (l : List UInt8) (w : World) (ea : Nat → Addr) (B : Nat) (he : Env w ea) (hr : Rd w B A n l) (hn : n ≤ 1000000000000) :
    Calls Tryd.prog 20 #[.slice A n c, .int .i64 8] w fun e w' => e = .returned (uvRes ea (fixd 8 l)) ∧ ∃ m, w' = w.drewN m := by
  have h2 := he.end_
  clear he
  have hl := hr.len
  by_cases hlt : n < 8
  · have HF : Hid (fixd 8 l = .error 101) := by unfold fixd; rw [if_pos (by omega)]; exact Lib.hid rfl
    clear hl hr
    go_enter Tryd.func20, Tryd.ntmps20
    go_wp2
    go_region
    go_wp2
    go_ret3
    exact ⟨by rw [HF.out]; rfl, 1, rfl⟩
  · have HF : Hid (fixd 8 l = .ok (le 8 l, 8)) := by unfold fixd; rw [if_neg (by omega)]; exact Lib.hid rfl
    have HL := Lib.hid hl; clear hl
    have hd : decide ((n : Int) < 8) = false := by simp; omega
    go_enter Tryd.func20, Tryd.ntmps20
    go_wp2
    go_loop [7, 8, 22] (fun u _ i => ∃ j x : Nat, j ≤ 8 ∧ i = .int .i64 j ∧ u = .int .u64 (x : Int) ∧ x = le j l) (fun _ _ i => 8 - (intOf i).toNat)
    case atStart => exact ⟨0, 0, by omega, rfl, rfl, by simp [le, leF]⟩
    case round =>
      obtain ⟨j, x, hj, rfl, rfl, hx⟩ := hrel
      by_cases hjl : j < 8
      · obtain ⟨ad, rfl, hb, hc⟩ := hr.at_ (show j < n by omega)
        have hs0 : 0 ≤ 8 * (j : Int) := by omega
        have hs1 : 8 * (j : Int) ≤ 64 := by omega
        have HS := Lib.hid (le_step l j (by rw [HL.out]; omega))
        have hy : (l.getD j 0).toNat < 256 := (l.getD j 0).toNat_lt
        generalize (l.getD j 0).toNat = y at hc hy HS
        have HB := Lib.hid (bits_u64_or8 x y j hy (by omega) (by rw [hx]; exact le_lt l j))
        have HX := Lib.hid hx; clear hx hr
        go_wp2
        go_round
        case rel => exact ⟨j + 1, x + y * 2 ^ (8 * j), by omega, by go_num, by rw [HB.out], by rw [HS.out, HX.out]⟩
        case measure => simp [intOf]; omega
      · have HJ := Lib.hid (show j = 8 by omega)
        have HX := Lib.hid hx; clear hx hr
        go_wp2
        go_ret3
        exact ⟨by rw [HF.out, HX.out, HJ.out]; rfl, 0, rfl⟩

/-- A record in block g. -/
def recCells (f k u : Nat) (v : Value) : Array Value := #[.int .i64 (f : Int), .int .i64 (k : Int), .int .u64 (u : Int), v]
/-- Bytes taken, or an error. -/
def wayRes (ea : Nat → Addr) : Except Nat Held → Value
  | .ok (_, _, m) => .tuple #[.int .i64 (m : Int), .nilIface]
  | .error k => .tuple #[.int .i64 0, .iface 88 (.pointer (some (ea k)))]
/-- What the record holds behind a way. -/
def WayHeld (w w' : World) (g f k : Nat) : Except Nat Held → Prop
  | .ok (u, b, _) => ∃ v, Blk w' g 29 (recCells f k u v) ∧ Ow w' w.heap.size 5 v b.length b
  | .error _ => True

def WayPost (ea : Nat → Addr) (w : World) (g f k : Nat) (r : Except Nat Held) (e : Ending) (w' : World) : Prop :=
  e = .returned (wayRes ea r) ∧ w.grownBy w' (some g) ∧ WayHeld w w' g f k r

theorem ow_nil (w : World) (b : Nat) : Ow w b 5 (.slice none 0 0) ([] : List UInt8).length [] := ⟨rfl, .inl ⟨rfl, rfl⟩⟩
theorem leaf0_err {l : List UInt8} {k : Nat} (g : Except Nat Held) (h : uvar l = .error k) : leaf 0 l g = .error k := by unfold leaf; rw [if_pos rfl, h]
theorem leaf0_ok {l : List UInt8} {u n : Nat} (g : Except Nat Held) (h : uvar l = .ok (u, n)) : leaf 0 l g = .ok (u, [], n) := by unfold leaf; rw [if_pos rfl, h]

set_option maxHeartbeats 400000 in
set_option maxRecDepth 100000 in
theorem way0_any (A : Option Addr) (n c f g : Nat) (d : Int) (l : List UInt8) (w : World) (ea : Nat → Addr) (B : Nat) (he : Env w ea) (hr : Rd w B A n l) (hn : n ≤ 1000000000000)
    (hg : Blk w g 29 (recCells f 0 0 (.slice none 0 0))) (r : Except Nat Held) :
    Calls Tryd.prog 36 #[.pointer (some ⟨g, 0, none⟩), .slice A n c, .int .i64 d] w (WayPost ea w g f 0 (leaf 0 l r)) := by
  have HE := Lib.hid he; clear he
  have HR := Lib.hid hr; clear hr
  have hc2 : w.cell? ⟨g, 2, none⟩ = some (.int .u64 0) := hg.cell 2
  have hf2 := hg.frozen 2
  have HG := Lib.hid hg; clear hg
  rcases hu : uvar l with k | ⟨u, m⟩
  all_goals
    have HU := Lib.hid hu; clear hu
    go_enter Tryd.func36, Tryd.ntmps36
    go_wp2_with fail
    refine (uvarint_any A n c l _ ea B HE.out HR.out hn).mono ?_
    rintro e w' ⟨rfl, m1, rfl⟩
    rw [HU.out, uvRes]
    go_wp2
    go_ret2
  · rw [leaf0_err r HU.out]
    exact ⟨rfl, grown_drewN (grown_setCell (World.grownBy.refl _ _) _ _) m1, trivial⟩
  · rw [leaf0_ok r HU.out]
    exact ⟨rfl, grown_drewN (grown_setCell (World.grownBy.refl _ _) _ _) m1, .slice none 0 0, HG.out.put 2 _, ow_nil _ _⟩

theorem leaf_1_err {l : List UInt8} {k : Nat} (g : Except Nat Held) (h : fixd 8 l = .error k) : leaf 1 l g = .error k := by
  unfold fixd at h
  unfold leaf
  simp only [show (1 : Nat) ≠ 0 by decide, if_false, if_true]
  split at h
  · rename_i hl; rw [if_pos hl]; exact congrArg _ (by simpa using h)
  · cases h
theorem leaf_1_ok {l : List UInt8} {u n : Nat} (g : Except Nat Held) (h : fixd 8 l = .ok (u, n)) : leaf 1 l g = .ok (u, [], n) := by
  unfold fixd at h
  unfold leaf
  simp only [show (1 : Nat) ≠ 0 by decide, if_false, if_true]
  split at h
  · cases h
  · rename_i hl; rw [if_neg hl]
    simp only [Except.ok.injEq, Prod.mk.injEq] at h
    obtain ⟨rfl, rfl⟩ := h
    rfl

set_option maxHeartbeats 400000 in
set_option maxRecDepth 100000 in
theorem way1_any (A : Option Addr) (n c f g b1 : Nat) (d : Int) (l : List UInt8) (w : World) (ea : Nat → Addr) (B : Nat) (he : Env w ea) (hr : Rd w B A n l) (hn : n ≤ 1000000000000)
    (hg : Blk w g 29 (recCells f 1 0 (.slice none 0 0))) (hb : w.cell? ⟨b1, 0, none⟩ = some (.int .i64 8)) (r : Except Nat Held) :
    Calls Tryd.prog 35 #[.pointer (some ⟨g, 0, none⟩), .slice A n c, .int .i64 d, .pointer (some ⟨b1, 0, none⟩)] w (WayPost ea w g f 1 (leaf 1 l r)) := by
  have HE := Lib.hid he; clear he
  have HR := Lib.hid hr; clear hr
  have hc2 : w.cell? ⟨g, 2, none⟩ = some (.int .u64 0) := hg.cell 2
  have hf2 := hg.frozen 2
  have HG := Lib.hid hg; clear hg
  rcases hu : fixd 8 l with k | ⟨u, m⟩
  all_goals
    have HU := Lib.hid hu; clear hu
    go_enter Tryd.func35, Tryd.ntmps35
    go_wp2_with fail
    refine (unfixed_8 A n c l _ ea B HE.out HR.out hn).mono ?_
    rintro e w' ⟨rfl, m1, rfl⟩
    rw [HU.out, uvRes]
    go_wp2
    go_ret2
  · rw [leaf_1_err r HU.out]
    exact ⟨rfl, grown_drewN (grown_setCell (World.grownBy.refl _ _) _ _) m1, trivial⟩
  · rw [leaf_1_ok r HU.out]
    exact ⟨rfl, grown_drewN (grown_setCell (World.grownBy.refl _ _) _ _) m1, .slice none 0 0, HG.out.put 2 _, ow_nil _ _⟩

theorem leaf_5_err {l : List UInt8} {k : Nat} (g : Except Nat Held) (h : fixd 4 l = .error k) : leaf 5 l g = .error k := by
  unfold fixd at h
  unfold leaf
  simp only [show (5 : Nat) ≠ 0 by decide, if_false, show (5 : Nat) ≠ 1 by decide, if_true]
  split at h
  · rename_i hl; rw [if_pos hl]; exact congrArg _ (by simpa using h)
  · cases h
theorem leaf_5_ok {l : List UInt8} {u n : Nat} (g : Except Nat Held) (h : fixd 4 l = .ok (u, n)) : leaf 5 l g = .ok (u, [], n) := by
  unfold fixd at h
  unfold leaf
  simp only [show (5 : Nat) ≠ 0 by decide, if_false, show (5 : Nat) ≠ 1 by decide, if_true]
  split at h
  · cases h
  · rename_i hl; rw [if_neg hl]
    simp only [Except.ok.injEq, Prod.mk.injEq] at h
    obtain ⟨rfl, rfl⟩ := h
    rfl

set_option maxHeartbeats 400000 in
set_option maxRecDepth 100000 in
theorem way5_any (A : Option Addr) (n c f g b1 : Nat) (d : Int) (l : List UInt8) (w : World) (ea : Nat → Addr) (B : Nat) (he : Env w ea) (hr : Rd w B A n l) (hn : n ≤ 1000000000000)
    (hg : Blk w g 29 (recCells f 5 0 (.slice none 0 0))) (hb : w.cell? ⟨b1, 0, none⟩ = some (.int .i64 4)) (r : Except Nat Held) :
    Calls Tryd.prog 35 #[.pointer (some ⟨g, 0, none⟩), .slice A n c, .int .i64 d, .pointer (some ⟨b1, 0, none⟩)] w (WayPost ea w g f 5 (leaf 5 l r)) := by
  have HE := Lib.hid he; clear he
  have HR := Lib.hid hr; clear hr
  have hc2 : w.cell? ⟨g, 2, none⟩ = some (.int .u64 0) := hg.cell 2
  have hf2 := hg.frozen 2
  have HG := Lib.hid hg; clear hg
  rcases hu : fixd 4 l with k | ⟨u, m⟩
  all_goals
    have HU := Lib.hid hu; clear hu
    go_enter Tryd.func35, Tryd.ntmps35
    go_wp2_with fail
    refine (unfixed_4 A n c l _ ea B HE.out HR.out hn).mono ?_
    rintro e w' ⟨rfl, m1, rfl⟩
    rw [HU.out, uvRes]
    go_wp2
    go_ret2
  · rw [leaf_5_err r HU.out]
    exact ⟨rfl, grown_drewN (grown_setCell (World.grownBy.refl _ _) _ _) m1, trivial⟩
  · rw [leaf_5_ok r HU.out]
    exact ⟨rfl, grown_drewN (grown_setCell (World.grownBy.refl _ _) _ _) m1, .slice none 0 0, HG.out.put 2 _, ow_nil _ _⟩

theorem leaf2_err {l : List UInt8} {k : Nat} (g : Except Nat Held) (h : uvar l = .error k) : leaf 2 l g = .error k := by unfold leaf; simp [h]
theorem leaf2_end {l : List UInt8} {u n : Nat} (g : Except Nat Held) (h : uvar l = .ok (u, n)) (hl : l.length - n < u) : leaf 2 l g = .error 101 := by unfold leaf; simp [h, hl]
theorem leaf2_ok {l : List UInt8} {u n : Nat} (g : Except Nat Held) (h : uvar l = .ok (u, n)) (hl : ¬ l.length - n < u) : leaf 2 l g = .ok (0, (l.drop n).take u, n + u) := by unfold leaf; simp [h, hl]

set_option maxHeartbeats 400000 in
set_option maxRecDepth 100000 in
theorem way2_any (A : Option Addr) (n c f g : Nat) (d : Int) (l : List UInt8) (w : World) (ea : Nat → Addr) (B : Nat) (he : Env w ea) (hr : Rd w B A n l) (hn : n ≤ 1000000000000) (hnc : n ≤ c) (hB : B ≤ w.heap.size)
    (hg : Blk w g 29 (recCells f 2 0 (.slice none 0 0))) (r : Except Nat Held) :
    Calls Tryd.prog 37 #[.pointer (some ⟨g, 0, none⟩), .slice A n c, .int .i64 d] w (WayPost ea w g f 2 (leaf 2 l r)) := by
  have HE := Lib.hid he; clear he
  have hln := hr.len
  have HR := Lib.hid hr; clear hr
  have hc2 : w.cell? ⟨g, 3, none⟩ = some (.slice none 0 0) := hg.cell 3
  have hf2 := hg.frozen 3
  have HG := Lib.hid hg; clear hg
  have h101 := HE.out.end_
  rcases hu : uvar l with k | ⟨u, m⟩
  · have HU := Lib.hid hu; clear hu hln
    go_enter Tryd.func37, Tryd.ntmps37
    go_wp2_with fail
    refine (uvarint_any A n c l _ ea B HE.out HR.out hn).mono ?_
    rintro e w' ⟨rfl, m1, rfl⟩
    rw [HU.out, uvRes]
    go_wp2
    go_ret2
    rw [leaf2_err r HU.out]
    exact ⟨rfl, grown_drewN (World.grownBy.refl _ _) m1, trivial⟩
  · have hb := uvar_ok hu
    have HU := Lib.hid hu; clear hu
    by_cases hlt : l.length - m < u
    · have HLT := Lib.hid hlt
      rw [hln] at hb hlt
      clear hln
      obtain ⟨hb1, hb2, hb3, hb4⟩ := hb
      have t1 : ((n : Int) - (m : Int)) < (u : Int) := by omega
      go_enter Tryd.func37, Tryd.ntmps37
      go_wp2_with fail
      refine (uvarint_any A n c l _ ea B HE.out HR.out hn).mono ?_
      rintro e w' ⟨rfl, m1, rfl⟩
      rw [HU.out, uvRes]
      go_wp2
      go_region
      go_wp2
      go_ret2
      rw [leaf2_end r HU.out HLT.out]
      exact ⟨rfl, grown_drewN (World.grownBy.refl _ _) (m1 + 1), trivial⟩
    · have HLT := Lib.hid hlt
      rw [hln] at hb hlt
      clear hln
      obtain ⟨hb1, hb2, hb3, hb4⟩ := hb
      have t1 : ¬ ((n : Int) - (m : Int)) < (u : Int) := by omega
      have hu1 : u ≤ n := by omega
      have hu2 : m + u ≤ n := by omega
      have hu3 : m + u ≤ c := by omega
      go_enter Tryd.func37, Tryd.ntmps37
      go_wp2_with fail
      refine (uvarint_any A n c l _ ea B HE.out HR.out hn).mono ?_
      rintro e w' ⟨rfl, m1, rfl⟩
      rw [HU.out, uvRes]
      have H1 := Lib.hid (HR.out.sub_same (c := c) (u := u) hu2 hnc)
      have H2 := Lib.hid (HR.out.sub_other (c := c) (u := u) hu2 hnc)
      go_wp2_with fail
      all_goals
        refine (copied_any _ u _ 0 ((l.drop m).take u) _ B ?_ (by exact hB) (by omega) (by omega)).mono ?_
        · first | exact (H1.out (by assumption)).drewN m1 | exact (H2.out (by assumption)).drewN m1
        rintro e w2 ⟨rfl, ho2, hb2'⟩
        have hgl := HG.out.lt
        have hbk := (HG.out.drewN m1).below hb2' hgl
        have hc3 : w2.cell? ⟨g, 3, none⟩ = some (.slice none 0 0) := hbk.cell 3
        have hf3 := hbk.frozen 3
        have HO := Lib.hid ho2; clear ho2
        have HB := Lib.hid hb2'; clear hb2'
        have HBK := Lib.hid hbk; clear hbk
        go_wp2
        go_ret2
        rw [leaf2_ok r HU.out HLT.out]
        refine ⟨rfl, ?_, _, HBK.out.put 3 _, ?_⟩
        · exact grown_setCell (grown_trans (grown_drewN (World.grownBy.refl _ _) m1) (grown_of_below HB.out _)) _ _
        · rw [HO.out.len]
          exact HO.out.grown (grown_setCell (World.grownBy.refl _ _) 3 _) (.inr (by simp [Value.ownBlock]; omega))
end Go.Proofs.YtnahkhiomnkbcaaDoor
