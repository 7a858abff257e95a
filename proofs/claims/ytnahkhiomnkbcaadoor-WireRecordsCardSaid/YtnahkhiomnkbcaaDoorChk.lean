/-
  Contracts: wire.Check: whether bytes are records and nothing else.
-/
import Derived.Test.YtnahkhiomnkbcaaDoorNxt
namespace Go.Proofs.YtnahkhiomnkbcaaDoor
open Go.RowKit Go.Own Go.Own.Wire

/-- Whether bytes are records: the place and the error of the first that is none. -/
def checkF : Nat → List UInt8 → Nat → Option (Nat × Nat)
  | 0, _, _ => none
  | fuel + 1, l, p =>
    if p < l.length then match next (l.drop p) with
      | .error e => some (p, e)
      | .ok (_, n) => checkF fuel l (p + n)
    else none
def check (l : List UInt8) : Option (Nat × Nat) := checkF (l.length + 1) l 0
theorem checkF_end {fuel p : Nat} {l : List UInt8} (h : ¬ p < l.length) : checkF fuel l p = none := by
  cases fuel with
  | zero => rfl
  | succ f => rw [checkF, if_neg h]
theorem checkF_err {fuel p e : Nat} {l : List UInt8} (h : p < l.length) (hn : next (l.drop p) = .error e) : checkF (fuel + 1) l p = some (p, e) := by rw [checkF, if_pos h, hn]
theorem checkF_ok {fuel p n : Nat} {r : Rec} {l : List UInt8} (h : p < l.length) (hn : next (l.drop p) = .ok (r, n)) : checkF (fuel + 1) l p = checkF fuel l (p + n) := by rw [checkF, if_pos h, hn]

/-- What Check answers: nil, or an At in new memory. -/
def CheckPost (ea : Nat → Addr) (w : World) (res : Option (Nat × Nat)) (e : Ending) (w' : World) : Prop :=
  Below w.heap.size w w' ∧ match res with
  | none => e = .returned .nilIface
  | some (p, k) => ∃ g, e = .returned (.iface 60 (.pointer (some ⟨g, 0, none⟩))) ∧ w.heap.size ≤ g ∧ Blk w' g 62 #[.int .i64 (p : Int), .iface 88 (.pointer (some (ea k)))]

def CheckRel (w : World) (n : Nat) (l : List UInt8) (at_ : Value) (wr : World) : Prop :=
  ∃ p fuel : Nat, p ≤ n ∧ at_ = .int .i64 (p : Int) ∧ check l = checkF (fuel + 1) l p ∧ n - p ≤ fuel ∧ Below w.heap.size w wr

set_option maxHeartbeats 1000000 in
set_option maxRecDepth 100000 in
theorem check_any (A : Option Addr) (n c : Nat) (l : List UInt8) (w : World) (ea : Nat → Addr) (B : Nat) (he : Env w ea) (hr : Rd w B A n l) (hn : n ≤ 1000000000000) (hnc : n ≤ c) (hB : B ≤ w.heap.size) :
    Calls Tryd.prog 10 #[.slice A n c] w (CheckPost ea w (check l)) := by
  have HE := Lib.hid he
  have HR := Lib.hid hr
  have hln := hr.len
  have HLN := Lib.hid hln
  have h8 := he.room
  clear he hr hln
  go_enter Tryd.func10, Tryd.ntmps10
  go_wp2
  go_loopw [3, 4, 5, 6] (fun at_ _ _ _ wr => CheckRel w n l at_ wr) (fun at_ _ _ _ _ => n - (intOf at_).toNat)
  case atStart => exact ⟨0, n, Nat.zero_le _, rfl, by rw [check, HLN.out], by omega, Below.refl _ _⟩
  case round =>
    obtain ⟨p, fuel, hp, rfl, hgo, hfu, hb⟩ := hrel
    have HGO := Lib.hid hgo
    have HB := Lib.hid hb
    have hs := hb.size
    clear hgo hb
    by_cases hlt : p < n
    · obtain ⟨A', hA', hsl⟩ := cut_from (c := c) byteP ((HR.out.more hB).below HB.out) (p : Int) (k := p) rfl hp hnc
      have HX := Lib.hid hA'; clear hA'
      have hn1 : n - p ≤ 1000000000000 := by omega
      have hc1 : n - p ≤ c - p := by omega
      generalize hn2 : n - p = n2 at hsl HX hn1 hc1
      generalize hc2' : c - p = c2 at hsl hc1
      clear hn2 hc2'
      rcases hx : next (l.drop p) with er | ⟨r, m⟩
      · have HN := Lib.hid hx; clear hx
        go_wp2_with fail
        refine (next_any _ _ _ (l.drop p) _ ea w.heap.size (by exact HE.out.below HB.out h8) (by exact HX.out) hn1 hc1 (by exact hs)).mono ?_
        rw [HN.out]
        rintro e w1 ⟨rfl, hb1⟩
        have HB1 := Lib.hid (HB.out.trans (hb1.mono hs)); clear hb1
        have hs1 := HB1.out.size
        simp only [recCells]
        go_wp2
        go_ret
        rw [HGO.out, checkF_err (by rw [HLN.out]; exact hlt) HN.out]
        refine ⟨(HB1.out.alloc hs1 _).alloc (by simp; omega) _, w1.heap.size + 1, rfl, by omega, ?_⟩
        have := Blk.new (w1.alloc (.cells #[.int .i64 0, .int .i64 0, .int .u64 0, .slice none 0 0] 29)) 62 #[.int .i64 (p : Int), .iface 88 (.pointer (some (ea er)))]
        simpa using this
      · have HN := Lib.hid hx
        have hle := next_le hx
        rw [List.length_drop, HLN.out] at hle
        clear hx
        go_wp2_with fail
        refine (next_any _ _ _ (l.drop p) _ ea w.heap.size (by exact HE.out.below HB.out h8) (by exact HX.out) hn1 hc1 (by exact hs)).mono ?_
        rw [HN.out]
        rintro e w1 ⟨v, rfl, hov, hb1⟩
        have HB1 := Lib.hid (HB.out.trans (hb1.mono hs)); clear hb1
        have hs1 := HB1.out.size
        obtain ⟨Av, cv, hv, _, _, _⟩ := hov.form
        subst hv
        clear hov
        simp only [recCells]
        go_wp2
        go_roundw
        case rel => exact ⟨p + m, fuel - 1, by omega, by go_num, by
          rw [HGO.out, checkF_ok (by rw [HLN.out]; exact hlt) HN.out, show fuel - 1 + 1 = fuel by omega], by omega, HB1.out.alloc hs1 _⟩
        case measure => simp [intOf]; omega
    · have HC : Hid (check l = none) := Lib.hid (by rw [HGO.out, checkF_end (by rw [HLN.out]; exact hlt)])
      go_wp2
      go_ret
      rw [HC.out]
      exact ⟨HB.out, rfl⟩
end Go.Proofs.YtnahkhiomnkbcaaDoor
