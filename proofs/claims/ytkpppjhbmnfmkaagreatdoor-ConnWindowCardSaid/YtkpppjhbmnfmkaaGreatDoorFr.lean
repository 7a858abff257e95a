/-
  Contracts: how the payloads of the types are read: frame.rest, exactly's closure, the closures of types.
-/
import Derived.Test.YtkpppjhbmnfmkaaGreatDoorFs
import Derived.Test.YtkpppjhbmnfmkaaGreatDoorFg
import Derived.Shelf.Abstract
import Derived.Test.YtkpppjhbmnfmkaaGreatDoorJa
set_option linter.unusedSimpArgs false
set_option linter.unusedVariables false
namespace Go.Own
open Go.RowKit
/-- A cell that is no byte is set: bytes stay. -/
theorem Rd.set_far {w : World} {B n : Nat} {A : Option Addr} {l : List UInt8} (h : Rd w B A n l) {q : Addr} {x : Value} (hq : w.cell? q = some x) (hx : ∀ y, x ≠ .int .u8 y) (u : Value) : Rd (w.setCell q u) B A n l :=
  ⟨h.1, fun hn => by
    obtain ⟨ad, e, hb, hc⟩ := h.2 hn
    refine ⟨ad, e, hb, fun j hj => ?_⟩
    have hcj := hc j hj
    rw [World.cell?_setCell_other w q (ad.add j) u (fun e => by
      subst e
      rw [hcj] at hq
      injection hq with hq
      exact hx _ hq.symm)]
    exact hcj⟩
end Go.Own
namespace Go.Proofs.YtkpppjhbmnfmkaaGreatDoor
open Go.RowKit Go.Own Go.Own.Fr Go.Own.Im
/-- The cells of what a frame says. -/
def infC (i : Inf) (sv dv : Value) : Array Value :=
  #[.int .i64 (i.typ : Nat), .int .i64 (i.flags : Nat), .int .i64 (i.stream : Nat), .bool i.endd, .bool i.endHeads, .bool i.ack, .bool i.padded, .bool i.prio, .bool i.alone, .int .i64 (i.pad : Nat), .int .i64 (i.dep : Nat), .int .i64 (i.weight : Nat), .int .i64 (i.code : Nat), .int .i64 (i.last : Nat), .int .i64 (i.inc : Nat), .int .i64 (i.promise : Nat), sv, dv]
def setC (s : Nat × Nat) : Array Value := #[.int .i64 (s.1 : Nat), .int .i64 (s.2 : Nat)]
/-- A slice of settings of one's own. -/
def SetO (w : World) (base : Nat) (v : Value) (l : List (Nat × Nat)) : Prop := Cm.Ew setC 87 2 w base v l
theorem setO_nil (w : World) (base : Nat) : SetO w base (.slice none 0 0) [] := Cm.Ew.nil _ _ _ _ _
theorem ow_nil (w : World) (base : Nat) (e : TypeId) : Ow w base e (.slice none 0 0) 0 [] := ⟨rfl, .inl ⟨rfl, rfl⟩⟩
/-- What reading a payload leaves. -/
def RdPost (W : World) (g : Nat) (i : Inf) (l : List UInt8) (e : Ending) (w' : World) : Prop :=
  W.grownBy w' (some g) ∧ match rd i l with
    | .ok j => e = .returned .nilIface ∧ ∃ sv dv, Blk w' g 91 (infC j sv dv) ∧ SetO w' W.heap.size sv j.sets ∧ Ow w' W.heap.size 5 dv j.data.length j.data
    | .error x => ∃ a, e = .returned (.iface 196 (.pointer (some ⟨a, 0, none⟩))) ∧ W.heap.size ≤ a ∧ Blk w' a 199 #[.int .i64 (x.1 : Nat), .int .i64 (x.2 : Nat)]
theorem rdPost_ret {W : World} {g : Nat} {i : Inf} {l : List UInt8} {e : Ending} {w' : World} (h : RdPost W g i l e w') : ∃ v, e = .returned v := by
  obtain ⟨_, h⟩ := h
  cases hr : rd i l with
  | ok j => rw [hr] at h; exact ⟨_, h.1⟩
  | error x => rw [hr] at h; obtain ⟨a, h, _⟩ := h; exact ⟨_, h⟩
set_option maxHeartbeats 4000000 in
set_option maxRecDepth 100000 in
theorem rest_any (g : Nat) (i : Inf) (sv dv : Value) (A : Option Addr) (n c B : Nat) (l : List UInt8) (W : World) (hb : Blk W g 91 (infC i sv dv)) (hr : Rd W B A n l) (hB : B ≤ W.heap.size) (hn : n ≤ 1000000000000) :
    Calls Tryz.prog 175 #[.pointer (some ⟨g, 0, none⟩), .slice A n c] W fun e w' => e = .returned .nilIface ∧ W.grownBy w' (some g) ∧ ∃ dv', Blk w' g 91 (infC { i with data := l } sv dv') ∧ Ow w' W.heap.size 5 dv' n l := by
  have HC := Lib.hid (fcopied_any A n c l W B hr hB hn)
  have HB := Lib.hid hb
  clear hr hn hb
  go_enter Tryz.func175, Tryz.ntmps175
  go_wp2_with fail
  refine HC.out.mono ?_
  rintro e w1 ⟨rfl, ho, hbl⟩
  have HO := Lib.hid ho
  have HL := Lib.hid hbl
  have hk := HB.out.below hbl HB.out.lt
  have f17 := hk.frozen 17
  have c17 : w1.cell? ⟨g, 17, none⟩ = some dv := hk.cell 17
  have HK := Lib.hid hk
  clear ho hbl hk
  go_wp2
  go_ret
  refine ⟨rfl, ?_, .slice (some ⟨W.heap.size, 0, none⟩) n n, HK.out.put 17 _, ?_⟩
  · exact grown_setCell ((grown_of_below HL.out _)) 17 _
  · exact HO.out.grown (grown_setCell (World.grownBy.refl w1 (some g)) 17 _) (.inr (by
      intro e
      have e2 : some W.heap.size = some g := e
      injection e2 with e2
      have := HB.out.lt
      omega))
set_option maxHeartbeats 4000000 in
set_option maxRecDepth 100000 in
/-- A reset's code. -/
theorem rdReset (g : Nat) (i : Inf) (A : Option Addr) (c B : Nat) (l : List UInt8) (W : World) (hb : Blk W g 91 (infC i (.slice none 0 0) (.slice none 0 0))) (hr : Rd W B A 4 l) (ht : i.typ = 3) (hs : i.sets = [] ∧ i.data = []) :
    Calls Tryz.prog 183 #[.pointer (some ⟨g, 0, none⟩), .slice A 4 c] W (RdPost W g i l) := by
  have hl := hr.1
  have HC := Lib.hid (of_any A 4 c l W B hr (Nat.le_refl _))
  have HB := Lib.hid hb
  have f12 := hb.frozen 12
  have c12 : W.cell? ⟨g, 12, none⟩ = some (.int .i64 (i.code : Nat)) := hb.cell 12
  have HR := Lib.hid (show rd i l = .ok { i with code := ofB 0 l } by simp [rd, ht, hl])
  clear hr hb
  go_enter Tryz.func183, Tryz.ntmps183
  go_wp2_with fail
  refine HC.out.mono ?_
  rintro e w1 ⟨rfl, hw⟩
  subst w1
  go_wp2
  go_ret
  refine ⟨grown_setCell (World.grownBy.refl W (some g)) 12 _, ?_⟩
  rw [HR.out]
  refine ⟨rfl, _, _, HB.out.put 12 _, ?_, ?_⟩
  · show SetO _ _ _ i.sets
    rw [hs.1]; exact setO_nil _ _
  · show Ow _ _ _ _ i.data.length i.data
    rw [hs.2]; exact ow_nil _ _ _
set_option maxHeartbeats 4000000 in
set_option maxRecDepth 100000 in
/-- A window's number. -/
theorem rdWindow (g : Nat) (i : Inf) (A : Option Addr) (c B : Nat) (l : List UInt8) (W : World) (hb : Blk W g 91 (infC i (.slice none 0 0) (.slice none 0 0))) (hr : Rd W B A 4 l) (ht : i.typ = 8) (hs : i.sets = [] ∧ i.data = []) :
    Calls Tryz.prog 191 #[.pointer (some ⟨g, 0, none⟩), .slice A 4 c] W (RdPost W g i l) := by
  have hl := hr.1
  have HC := Lib.hid (of_any A 4 c l W B hr (Nat.le_refl _))
  have HLo := Lib.hid (low_any (ofB 0 l) W (by have h1 := ofB_lt l 0; rw [hl] at h1; omega))
  have HB := Lib.hid hb
  have f14 := hb.frozen 14
  have c14 : W.cell? ⟨g, 14, none⟩ = some (.int .i64 (i.inc : Nat)) := hb.cell 14
  have c2 : W.cell? ⟨g, 2, none⟩ = some (.int .i64 (i.stream : Nat)) := hb.cell 2
  have HR := Lib.hid (show rd i l = if low (ofB 0 l) = 0 then .error (1, i.stream) else .ok { i with inc := low (ofB 0 l) } by simp [rd, ht, hl])
  clear hr hb
  obtain ⟨v, hv⟩ : ∃ v, low (ofB 0 l) = v := ⟨_, rfl⟩
  rw [hv] at HLo HR
  go_enter Tryz.func191, Tryz.ntmps191
  go_wp2_with fail
  refine HC.out.mono ?_
  rintro e w1 ⟨rfl, hw⟩
  subst w1
  go_wp2_with fail
  refine HLo.out.mono ?_
  rintro e w1 ⟨rfl, hw⟩
  subst w1
  by_cases h0 : v = 0
  · subst h0
    rw [if_pos rfl] at HR
    go_wp2_with fail
    refine (fault_any 1 (i.stream : Nat) _).mono ?_
    rintro e w1 ⟨rfl, hw⟩
    subst w1
    go_wp2
    go_ret
    refine ⟨grown_alloc (grown_setCell (World.grownBy.refl W (some g)) 14 _) _, ?_⟩
    rw [HR.out]
    refine ⟨_, rfl, by simp, ?_⟩
    have h := Blk.new (W.setCell ⟨g, 14, none⟩ (.int .i64 0)) 199 #[.int .i64 1, .int .i64 (i.stream : Nat)]
    rw [show (W.setCell ⟨g, 14, none⟩ (.int .i64 0)).heap.size = W.heap.size by simp] at h
    exact h
  · have h0' : ¬ (v : Int) = 0 := by omega
    rw [if_neg h0] at HR
    go_wp2
    go_ret
    refine ⟨grown_setCell (World.grownBy.refl W (some g)) 14 _, ?_⟩
    rw [HR.out]
    refine ⟨rfl, _, _, HB.out.put 14 _, ?_, ?_⟩
    · show SetO _ _ _ i.sets
      rw [hs.1]; exact setO_nil _ _
    · show Ow _ _ _ _ i.data.length i.data
      rw [hs.2]; exact ow_nil _ _ _
theorem rest_rd (g : Nat) (i : Inf) (A : Option Addr) (n c B : Nat) (l : List UInt8) (W : World) (hb : Blk W g 91 (infC i (.slice none 0 0) (.slice none 0 0))) (hr : Rd W B A n l) (hB : B ≤ W.heap.size) (hn : n ≤ 1000000000000) (hs : i.sets = []) (hrd : rd i l = .ok { i with data := l }) :
    Calls Tryz.prog 175 #[.pointer (some ⟨g, 0, none⟩), .slice A n c] W (RdPost W g i l) := by
  refine (rest_any g i _ _ A n c B l W hb hr hB hn).mono ?_
  rintro e w' ⟨rfl, hg, dv, h1, h2⟩
  refine ⟨hg, ?_⟩
  rw [hrd]
  refine ⟨rfl, _, dv, h1, ?_, ?_⟩
  · show SetO _ _ _ i.sets
    rw [hs]; exact setO_nil _ _
  · show Ow _ _ _ dv l.length l
    rw [hr.1]; exact h2
set_option maxHeartbeats 4000000 in
set_option maxRecDepth 100000 in
/-- Of just so many bytes, or a fault. -/
theorem exact_any (g g0 k K : Nat) (i : Inf) (A : Option Addr) (n c B : Nat) (l : List UInt8) (W : World) (hE : Enters Tryz.prog K) (hx : ExC W g0 (k : Nat) (.func (.func K) #[] #[])) (hr : Rd W B A n l)
    (hno : n ≠ k → rd i l = .error (6, 0)) (hyes : n = k → Calls Tryz.prog K #[.pointer (some ⟨g, 0, none⟩), .slice A n c] W (RdPost W g i l)) :
    Calls Tryz.prog 215 #[.pointer (some ⟨g, 0, none⟩), .slice A n c, .pointer (some ⟨g0, 0, none⟩), .pointer (some ⟨g0 + 1, 0, none⟩)] W (RdPost W g i l) := by
  have c0 : W.cell? ⟨g0, 0, none⟩ = some (.int .i64 (k : Nat)) := hx.1.cell 0
  have c1 : W.cell? ⟨g0 + 1, 0, none⟩ = some (.func (.func K) #[] #[]) := hx.2.cell 0
  have hE : ∀ args w, (callFunc K args).run Tryz.prog w = .ok (.enter K args) w := hE
  have HY := Lib.hid hyes
  have HN := Lib.hid hno
  clear hyes hno hx hr
  go_enter Tryz.func215, Tryz.ntmps215
  by_cases hk : n = k
  · subst hk
    go_wp2_with fail
    refine (HY.out (by trivial)).mono ?_
    intro e w' h
    obtain ⟨v, rfl⟩ := rdPost_ret h
    have H := Lib.hid h
    clear h
    go_wp2
    go_ret
    exact H.out
  · have hk' : ((n : Int) = (k : Int)) = False := by simp; omega
    go_wp2_with fail
    refine (fault_any 6 0 _).mono ?_
    rintro e w1 ⟨rfl, hw⟩
    subst w1
    go_wp2
    go_ret
    refine ⟨(World.grownBy_alloc W _ _), ?_⟩
    rw [HN.out hk]
    exact ⟨_, rfl, Nat.le_refl _, Blk.new _ _ _⟩
set_option maxHeartbeats 4000000 in
set_option maxRecDepth 100000 in
/-- Headers without a priority. -/
theorem rdHeads (g : Nat) (i : Inf) (A : Option Addr) (n c B : Nat) (l : List UInt8) (W : World) (hb : Blk W g 91 (infC i (.slice none 0 0) (.slice none 0 0))) (hr : Rd W B A n l) (hB : B ≤ W.heap.size) (hn : n ≤ 1000000000000) (ht : i.typ = 1) (hp : i.prio = false) (hs : i.sets = []) :
    Calls Tryz.prog 177 #[.pointer (some ⟨g, 0, none⟩), .slice A n c] W (RdPost W g i l) := by
  have HC := Lib.hid (rest_rd g i A n c B l W hb hr hB hn hs (by simp [rd, ht, hp]))
  have c7 : W.cell? ⟨g, 7, none⟩ = some (.bool i.prio) := hb.cell 7
  rw [hp] at c7
  clear hb hr
  go_enter Tryz.func177, Tryz.ntmps177
  go_wp2_with fail
  refine HC.out.mono ?_
  intro e w' h
  obtain ⟨v, rfl⟩ := rdPost_ret h
  have H := Lib.hid h
  clear h
  go_wp2
  go_ret
  exact H.out
set_option maxHeartbeats 8000000 in
set_option maxRecDepth 100000 in
/-- GOAWAY. -/
theorem rdAway (g : Nat) (i : Inf) (A : Option Addr) (n c B : Nat) (l : List UInt8) (W : World) (hb : Blk W g 91 (infC i (.slice none 0 0) (.slice none 0 0))) (hr : Rd W B A n l) (hB : B ≤ W.heap.size) (hc : n ≤ c) (hn : n ≤ 1000000000000) (ht : i.typ = 7) (hs : i.sets = []) :
    Calls Tryz.prog 189 #[.pointer (some ⟨g, 0, none⟩), .slice A n c] W (RdPost W g i l) := by
  have hl := hr.1
  by_cases h8 : n < 8
  · have h8' : ((n : Int) < 8) = True := by simp; omega
    have HR := Lib.hid (show rd i l = .error (6, 0) by simp [rd, ht, hl, h8])
    clear hb hr
    go_enter Tryz.func189, Tryz.ntmps189
    go_wp2_with fail
    refine (fault_any 6 0 _).mono ?_
    rintro e w1 ⟨rfl, hw⟩
    subst w1
    go_wp2
    go_ret
    refine ⟨(World.grownBy_alloc W _ _), ?_⟩
    rw [HR.out]
    exact ⟨_, rfl, Nat.le_refl _, Blk.new _ _ _⟩
  · have h8' : ((n : Int) < 8) = False := by simp; omega
    have HR := Lib.hid (show rd i l = .ok { i with last := low (ofB 0 (l.take 4)), code := ofB 0 ((l.drop 4).take 4), data := l.drop 8 } by simp [rd, ht, hl, h8])
    obtain ⟨A1, hr1, hrun1⟩ := cut_head byteP hr (4 : Int) (k := 4) rfl (by omega) hc
    obtain ⟨A2, hr2, hrun2⟩ := cut_mid byteP hr (4 : Int) (8 : Int) (k := 4) (m := 4) rfl rfl (by omega) hc
    obtain ⟨A3, hr3, hrun3⟩ := cut_from byteP hr (8 : Int) (k := 8) rfl (by omega) hc
    have hlo : ofB 0 (l.take 4) < 9223372036854775808 := by
      have h1 := ofB_lt (l.take 4) 0
      have h2 : 256 ^ (l.take 4).length ≤ 256 ^ 4 := Nat.pow_le_pow_right (by omega) (List.length_take_le _ _)
      omega
    obtain ⟨v1, hv1⟩ : ∃ v, ofB 0 (l.take 4) = v := ⟨_, rfl⟩
    obtain ⟨v2, hv2⟩ : ∃ v, ofB 0 ((l.drop 4).take 4) = v := ⟨_, rfl⟩
    rw [hv1] at hlo
    have c13 : W.cell? ⟨g, 13, none⟩ = some (.int .i64 (i.last : Nat)) := hb.cell 13
    have c12 : W.cell? ⟨g, 12, none⟩ = some (.int .i64 (i.code : Nat)) := hb.cell 12
    have f13 := hb.frozen 13
    have f12 := hb.frozen 12
    have HO1 := Lib.hid (fun W' (h : Rd W' B A1 4 (l.take 4)) => of_any A1 4 c (l.take 4) W' B h (Nat.le_refl _))
    have HO2 := Lib.hid (fun W' (h : Rd W' B A2 4 ((l.drop 4).take 4)) => of_any A2 4 (c - 4) ((l.drop 4).take 4) W' B h (Nat.le_refl _))
    rw [hv1] at HO1 HR
    rw [hv2] at HO2 HR
    have HLo := Lib.hid (fun W' => low_any v1 W' hlo)
    have c12b : (W.setCell ⟨g, 13, none⟩ (.int .i64 (low v1 : Nat))).cell? ⟨g, 12, none⟩ = some (.int .i64 (i.code : Nat)) := (hb.put 13 _).cell 12
    have HB2 := Lib.hid (show Blk ((W.setCell ⟨g, 13, none⟩ (.int .i64 (low v1 : Nat))).setCell ⟨g, 12, none⟩ (.int .i64 (v2 : Nat))).drew g 91 (infC { i with last := low v1, code := v2 } (.slice none 0 0) (.slice none 0 0)) from (hb.put 13 (.int .i64 (low v1 : Nat))).put 12 (.int .i64 (v2 : Nat)))
    have HR3b := Lib.hid (show Rd ((W.setCell ⟨g, 13, none⟩ (.int .i64 (low v1 : Nat))).setCell ⟨g, 12, none⟩ (.int .i64 (v2 : Nat))).drew B A3 (n - 8) (l.drop 8) from (hr3.set_far c13 (by simp) (.int .i64 (low v1 : Nat))).set_far c12b (by simp) (.int .i64 (v2 : Nat)))
    have HG2 := Lib.hid (show W.grownBy ((W.setCell ⟨g, 13, none⟩ (.int .i64 (low v1 : Nat))).setCell ⟨g, 12, none⟩ (.int .i64 (v2 : Nat))).drew (some g) from grown_drewN (grown_setCell (grown_setCell (World.grownBy.refl W (some g)) 13 (.int .i64 (low v1 : Nat))) 12 (.int .i64 (v2 : Nat))) 1)
    have HZ2 := Lib.hid (show ((W.setCell ⟨g, 13, none⟩ (.int .i64 (low v1 : Nat))).setCell ⟨g, 12, none⟩ (.int .i64 (v2 : Nat))).drew.heap.size = W.heap.size by simp)
    clear c12b
    have HB := Lib.hid hb
    have HR1 := Lib.hid hr1
    have HR2 := Lib.hid hr2
    have HR3 := Lib.hid hr3
    have HR1s := Lib.hid (fun u => hr1.set_far c12 (by simp) u)
    have HR2s := Lib.hid (fun u => hr2.set_far c13 (by simp) u)
    clear hlo hr1 hr2 hr3 hb hr hv1 hv2
    go_enter Tryz.func189, Tryz.ntmps189
    go_upto_region 3 with fail
    go_region_held3 (fun _ => True) (trivial) (first
      | (go_at_call 113
         with_reducible refine Calls.mono (HO1.out _ ?_) ?_
         · first | exact HR1.out | exact HR1s.out _
         rintro e w1 ⟨rfl, hw⟩
         subst w1)
      | (go_at_call 113
         with_reducible refine Calls.mono (HO2.out _ ?_) ?_
         · first | exact HR2.out | exact HR2s.out _
         rintro e w1 ⟨rfl, hw⟩
         subst w1)
      | (go_at_call 114
         refine (HLo.out _).mono ?_
         rintro e w1 ⟨rfl, hw⟩
         subst w1)
      | fail)
    all_goals
      go_wp2_with fail
      refine (rest_any g { i with last := low v1, code := v2 } _ _ A3 (n - 8) (c - 8) B (l.drop 8) _ HB2.out HR3b.out (by rw [HZ2.out]; exact hB) (by omega)).mono ?_
      rintro e w' ⟨rfl, hg, dv, h1, h2⟩
      rw [HZ2.out] at h2
      have HG3 := Lib.hid (grown_trans HG2.out hg)
      have HB3 := Lib.hid h1
      have HO3 := Lib.hid h2
      clear hg h1 h2
      go_wp2
      go_ret
      refine ⟨HG3.out, ?_⟩
      rw [HR.out]
      refine ⟨rfl, _, dv, HB3.out, ?_, ?_⟩
      · show SetO _ _ _ i.sets
        rw [hs]; exact setO_nil _ _
      · show Ow _ _ _ dv (l.drop 8).length (l.drop 8)
        rw [List.length_drop, hl]; exact HO3.out
end Go.Proofs.YtkpppjhbmnfmkaaGreatDoor
