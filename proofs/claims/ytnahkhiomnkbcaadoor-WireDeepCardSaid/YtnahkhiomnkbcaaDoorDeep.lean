/-
  WireDeep: groups that stand as deep in one another as they may are read, one more is not: for every number and either choice.
-/
import Derived.Test.YtnahkhiomnkbcaaDoorRefs
namespace Go.Proofs.YtnahkhiomnkbcaaDoor
open Go.RowKit Go.Own Go.Own.Wire

theorem and63 (n : Int) : ∃ N : Nat, N < 64 ∧ bits .and .i64 n 63 = (N : Int) := by
  refine ⟨(BitVec.ofInt 64 n &&& BitVec.ofInt 64 63).toNat, ?_, ?_⟩
  · rw [BitVec.toNat_and]
    exact Nat.lt_of_le_of_lt Nat.and_le_right (by decide)
  · show IntKind.i64.wrap ((BitVec.ofInt 64 n &&& BitVec.ofInt 64 63).toNat : Int) = _
    have : (BitVec.ofInt 64 n &&& BitVec.ofInt 64 63).toNat < 64 := by
      rw [BitVec.toNat_and]
      exact Nat.lt_of_le_of_lt Nat.and_le_right (by decide)
    rw [IntKind.wrap_i64]
    omega

/-- The bytes that the law makes. -/
def deepB (N : Nat) (f : Bool) : List UInt8 := List.replicate N 11 ++ (if f then [16, 5] else []) ++ List.replicate N 12

def errOf : Except Nat (Rec × Nat) → Nat
  | .error k => k
  | .ok _ => 0
theorem deep_good : ∀ N : Nat, N < 33 → ∀ f : Bool, (check (deepB N f)).isNone = true := by decide +kernel
theorem deep_bad : ∀ N : Nat, N < 64 → 32 < N → ∀ f : Bool, (check (deepB N f)).isSome = true ∧ errOf (next (deepB N f)) = 105 := by decide +kernel

theorem next_bad {N : Nat} {f : Bool} (h : errOf (next (deepB N f)) = 105) : next (deepB N f) = .error 105 := by
  rcases hx : next (deepB N f) with k | r
  · rw [hx] at h; exact congrArg _ h
  · rw [hx] at h; cases h

def AppRel (w : World) (N q : Nat) (pre : List UInt8) (b : UInt8) (i v : Value) (wr : World) : Prop :=
  ∃ j : Nat, j ≤ N ∧ i = .int .i64 (j : Int) ∧ v = .slice (some ⟨w.heap.size, 0, none⟩) (q + j) 200 ∧
    Ow wr w.heap.size 5 (.slice (some ⟨w.heap.size, 0, none⟩) (q + j) 200) (q + j) (pre ++ List.replicate j b) ∧ Below w.heap.size w wr

theorem app_next {w wr w2 : World} {N q j : Nat} {pre : List UInt8} {b : UInt8} {o : Obj} (hj : j < N) (hb : Below w.heap.size w wr)
    (ho : Ow w2 w.heap.size 5 (.slice (some ⟨w.heap.size, 0, none⟩) (q + j + 1) 200) (q + j + 1) (pre ++ List.replicate j b ++ [b])) (hg : (wr.alloc o).grownBy w2 (some w.heap.size)) :
    AppRel w N q pre b (.int .i64 ((j : Int) + 1)) (.slice (some ⟨w.heap.size, 0, none⟩) (q + j + 1) 200) w2 := by
  refine ⟨j + 1, by omega, by go_num, rfl, ?_, (hb.alloc hb.size _).grown hg (by simp; have := hb.size; omega) (by simp)⟩
  rw [List.append_assoc, ← List.replicate_succ'] at ho
  exact ho

set_option maxHeartbeats 1000000 in
set_option maxRecDepth 100000 in
theorem wireDeep_any (n : Int) (field : Bool) (w : World) (ea : Nat → Addr) (he : Env w ea) :
    Calls Tryd.prog 3 #[.int .i64 n, .bool field] w fun e w' => e = .returned (.bool true) ∧ Below w.heap.size w w' := by
  have HE := Lib.hid he
  have h8 := he.room
  clear he
  obtain ⟨N, hN, hand⟩ := and63 n
  go_enter Tryd.func3, Tryd.ntmps3
  go_wp2_with fail
  refine (first_any _ ea HE.out).mono ?_
  rintro e w1 ⟨rfl, hb1⟩
  have HB1 := Lib.hid hb1
  have hs1 := hb1.size
  clear hb1
  go_wp2_with (first
    | (at_make
       refine wpList_mk _ byteP rfl _ _ rfl w1.heap.size .i64 .i64 _ 200 rfl rfl rfl (by omega) (Nat.le_refl _) ?_
       intro w2 ho2 hg2
       have HB2 := Lib.hid ((Below.refl w1.heap.size w1).grown hg2 (Nat.le_refl _) (by simp))
       have HO2 := Lib.hid ho2; clear ho2 hg2))
  clear hand
  go_loopw [7, 6] (fun i v wr => AppRel w1 N 0 [] 11 i v wr) (fun i _ _ => N - (intOf i).toNat)
  case atStart => exact ⟨0, Nat.zero_le _, rfl, rfl, HO2.out, HB2.out⟩
  case round =>
    obtain ⟨j, hj, rfl, rfl, ho, hb⟩ := hrel
    have HO := Lib.hid ho
    have HB := Lib.hid hb
    have hs := hb.size
    clear ho hb HO2 HB2
    by_cases hlt : j < N
    · go_wp2_with (first
        | (at_builtin
           refine wpList_app_fits _ byteP rfl (.tmp 22) (.tmp 23) rfl w1.heap.size w1.heap.size (0 + j) 200 _ rfl (HO.out.alloc _) _ _ 1 1 _ rfl (Rd.one _ _ 11 _ rfl) ?_ ?_
           · omega
           intro w3 ho3 hg3
           have HR3 := Lib.hid (app_next hlt HB.out ho3 hg3); clear ho3 hg3))
      go_roundw
      case rel => have h := HR3.out; rw [Nat.zero_add] at h; exact h
      case measure => simp [intOf]; omega
    · obtain rfl : j = N := by omega
      clear hlt hj
      have hj : j < 64 := hN
      cases field
      · go_wp2
        go_loopw [8, 6] (fun i v wr => AppRel w1 j (j) (List.replicate j 11) 12 i v wr) (fun i _ _ => j - (intOf i).toNat)
        case atStart => exact ⟨0, Nat.zero_le _, rfl, by simp, by simpa using HO.out, HB.out⟩
        case round =>
          obtain ⟨i, hi, rfl, rfl, ho, hb⟩ := hrel
          have HO3 := Lib.hid ho
          have HB3 := Lib.hid hb
          have hs3 := hb.size
          clear ho hb
          by_cases hlt : i < j
          · go_wp2_with (first
              | (at_builtin
                 refine wpList_app_fits _ byteP rfl (.tmp 34) (.tmp 35) rfl w1.heap.size w1.heap.size (j + i) 200 _ rfl (HO3.out.alloc _) _ _ 1 1 _ rfl (Rd.one _ _ 12 _ rfl) ?_ ?_
                 · omega
                 intro w3 ho3 hg3
                 have HR3 := Lib.hid (app_next hlt HB3.out ho3 hg3); clear ho3 hg3))
            go_roundw
            case rel => exact HR3.out
            case measure => simp [intOf]; omega
          · obtain rfl : i = j := by omega
            have hdeep : List.replicate i 11 ++ List.replicate i 12 = deepB i false := by simp [deepB]
            rw [hdeep] at HO3
            clear hdeep HO HB hs hi hlt
            have HRd := Lib.hid HO3.out.rd
            have HBW := Lib.hid (HB1.out.trans (HB3.out.mono hs1))
            have hsx := HBW.out.size
            clear HB3 HO3 HB1
            by_cases h32 : i < 33
            · have hc := deep_good i h32 false
              have HC : Hid (check (deepB i false) = none) := Lib.hid (by simpa using hc)
              have g32 : ¬ (32 : Int) < (i : Int) := by omega
              clear hc
              go_wp2_with fail
              refine (check_any _ _ _ (deepB i false) _ ea _ (by exact HE.out.below HBW.out h8) (by exact HRd.out) (by omega) (by omega) (Nat.le_refl _)).mono ?_
              rw [HC.out]
              rintro e w5 ⟨hb5, rfl⟩
              have HB5 := Lib.hid (HBW.out.trans (hb5.mono hsx)); clear hb5
              go_wp2
              go_ret
              exact ⟨rfl, HB5.out⟩
            · obtain ⟨hc, hx⟩ := deep_bad i hj (by omega) false
              have HX := Lib.hid (next_bad hx)
              obtain ⟨⟨p, k⟩, hck⟩ := Option.isSome_iff_exists.1 hc
              have HC := Lib.hid hck
              have g32 : (32 : Int) < (i : Int) := by omega
              clear hc hx hck
              go_wp2_with fail
              refine (check_any _ _ _ (deepB i false) _ ea _ (by exact HE.out.below HBW.out h8) (by exact HRd.out) (by omega) (by omega) (Nat.le_refl _)).mono ?_
              rw [HC.out]
              rintro e w5 ⟨hb5, g5, rfl, _, _⟩
              have HB5 := Lib.hid (HBW.out.trans (hb5.mono hsx))
              have HR5 := Lib.hid ((HRd.out.below hb5).more hb5.size); clear hb5
              go_wp2_with fail
              refine (next_any _ _ _ (deepB i false) _ ea _ (by exact HE.out.below HB5.out h8) (by exact HR5.out) (by omega) (by omega) (Nat.le_refl _)).mono ?_
              rw [HX.out]
              rintro e w6 ⟨rfl, hb6⟩
              have HB6 := Lib.hid (HB5.out.trans (hb6.mono HB5.out.size)); clear hb6
              have hs6 := HB6.out.size
              simp only [recCells]
              go_wp2
              go_ret
              exact ⟨rfl, HB6.out.alloc hs6 _⟩
      · go_wp2_with (first
          | (at_builtin
             refine wpList_app_fits _ byteP rfl (.tmp 26) (.tmp 27) rfl w1.heap.size w1.heap.size (0 + j) 200 _ rfl (HO.out.alloc _) _ _ 2 2 _ rfl (rd_new2 _ 16 5 _ _ rfl rfl) ?_ ?_
             · omega
             intro w3 ho3 hg3
             have HO4 := Lib.hid ho3
             have HB4 := Lib.hid ((HB.out.alloc HB.out.size _).grown hg3 (by simp; omega) (by simp)); clear ho3 hg3))
        go_loopw [8, 6] (fun i v wr => AppRel w1 j (j + 2) (List.replicate j 11 ++ [16, 5]) 12 i v wr) (fun i _ _ => j - (intOf i).toNat)
        case atStart => exact ⟨0, Nat.zero_le _, rfl, by simp, by simpa using HO4.out, HB4.out⟩
        case round =>
          obtain ⟨i, hi, rfl, rfl, ho, hb⟩ := hrel
          have HO3 := Lib.hid ho
          have HB3 := Lib.hid hb
          have hs3 := hb.size
          clear ho hb
          by_cases hlt : i < j
          · go_wp2_with (first
              | (at_builtin
                 refine wpList_app_fits _ byteP rfl (.tmp 34) (.tmp 35) rfl w1.heap.size w1.heap.size (j + 2 + i) 200 _ rfl (HO3.out.alloc _) _ _ 1 1 _ rfl (Rd.one _ _ 12 _ rfl) ?_ ?_
                 · omega
                 intro w3 ho3 hg3
                 have HR3 := Lib.hid (app_next hlt HB3.out ho3 hg3); clear ho3 hg3))
            go_roundw
            case rel => exact HR3.out
            case measure => simp [intOf]; omega
          · obtain rfl : i = j := by omega
            have hdeep : List.replicate i 11 ++ [16, 5] ++ List.replicate i 12 = deepB i true := by simp [deepB]
            rw [hdeep] at HO3
            clear hdeep HO HB hs hi hlt
            have HRd := Lib.hid HO3.out.rd
            have HBW := Lib.hid (HB1.out.trans (HB3.out.mono hs1))
            have hsx := HBW.out.size
            clear HB3 HO3 HB1
            by_cases h32 : i < 33
            · have hc := deep_good i h32 true
              have HC : Hid (check (deepB i true) = none) := Lib.hid (by simpa using hc)
              have g32 : ¬ (32 : Int) < (i : Int) := by omega
              clear hc
              go_wp2_with fail
              refine (check_any _ _ _ (deepB i true) _ ea _ (by exact HE.out.below HBW.out h8) (by exact HRd.out) (by omega) (by omega) (Nat.le_refl _)).mono ?_
              rw [HC.out]
              rintro e w5 ⟨hb5, rfl⟩
              have HB5 := Lib.hid (HBW.out.trans (hb5.mono hsx)); clear hb5
              go_wp2
              go_ret
              exact ⟨rfl, HB5.out⟩
            · obtain ⟨hc, hx⟩ := deep_bad i hj (by omega) true
              have HX := Lib.hid (next_bad hx)
              obtain ⟨⟨p, k⟩, hck⟩ := Option.isSome_iff_exists.1 hc
              have HC := Lib.hid hck
              have g32 : (32 : Int) < (i : Int) := by omega
              clear hc hx hck
              go_wp2_with fail
              refine (check_any _ _ _ (deepB i true) _ ea _ (by exact HE.out.below HBW.out h8) (by exact HRd.out) (by omega) (by omega) (Nat.le_refl _)).mono ?_
              rw [HC.out]
              rintro e w5 ⟨hb5, g5, rfl, _, _⟩
              have HB5 := Lib.hid (HBW.out.trans (hb5.mono hsx))
              have HR5 := Lib.hid ((HRd.out.below hb5).more hb5.size); clear hb5
              go_wp2_with fail
              refine (next_any _ _ _ (deepB i true) _ ea _ (by exact HE.out.below HB5.out h8) (by exact HR5.out) (by omega) (by omega) (Nat.le_refl _)).mono ?_
              rw [HX.out]
              rintro e w6 ⟨rfl, hb6⟩
              have HB6 := Lib.hid (HB5.out.trans (hb6.mono HB5.out.size)); clear hb6
              have hs6 := HB6.out.size
              simp only [recCells]
              go_wp2
              go_ret
              exact ⟨rfl, HB6.out.alloc hs6 _⟩
end Go.Proofs.YtnahkhiomnkbcaaDoor
