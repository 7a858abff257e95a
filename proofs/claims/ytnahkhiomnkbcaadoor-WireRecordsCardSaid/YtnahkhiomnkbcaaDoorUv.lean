/-
  Contracts: wire.Uvarint, Untag, tag, Unfixed: what each returns, by the plain laws.
-/
import Derived.Test.YtnahkhiomnkbcaaDoorProg
import Derived.Test.YtnahkhiomnkbcaaDoorWire
namespace Go.Proofs.YtnahkhiomnkbcaaDoor
open Go.RowKit Go.Own Go.Own.Wire

/-- The errors that the variables hold. -/
structure Env (w : World) (ea : Nat → Addr) : Prop where
  end_ : w.cell? ⟨2, 0, none⟩ = some (.iface 88 (.pointer (some (ea 101))))
  long : w.cell? ⟨1, 0, none⟩ = some (.iface 88 (.pointer (some (ea 102))))
  tag : w.cell? ⟨4, 0, none⟩ = some (.iface 88 (.pointer (some (ea 103))))
  group : w.cell? ⟨0, 0, none⟩ = some (.iface 88 (.pointer (some (ea 104))))
  deep : w.cell? ⟨7, 0, none⟩ = some (.iface 88 (.pointer (some (ea 105))))
  number : w.cell? ⟨3, 0, none⟩ = some (.iface 88 (.pointer (some (ea 120))))
  room : 8 ≤ w.heap.size

theorem Env.below {w w' : World} {ea : Nat → Addr} {B : Nat} (h : Env w ea) (hb : Below B w w') (hB : 8 ≤ B) : Env w' ea :=
  ⟨(hb.cell (Nat.lt_of_lt_of_le (by decide) hB)).trans h.end_, (hb.cell (Nat.lt_of_lt_of_le (by decide) hB)).trans h.long, (hb.cell (Nat.lt_of_lt_of_le (by decide) hB)).trans h.tag, (hb.cell (Nat.lt_of_lt_of_le (by decide) hB)).trans h.group, (hb.cell (Nat.lt_of_lt_of_le (by decide) hB)).trans h.deep, (hb.cell (Nat.lt_of_lt_of_le (by decide) hB)).trans h.number, Nat.le_trans h.room hb.size⟩
theorem Env.drewN {w : World} {ea : Nat → Addr} (h : Env w ea) (n : Nat) : Env (w.drewN n) ea := ⟨h.end_, h.long, h.tag, h.group, h.deep, h.number, h.room⟩
theorem Env.drew {w : World} {ea : Nat → Addr} (h : Env w ea) : Env w.drew ea := ⟨h.end_, h.long, h.tag, h.group, h.deep, h.number, h.room⟩

/-- A number, or its error, as it is returned. -/
def uvRes (ea : Nat → Addr) : Except Nat (Nat × Nat) → Value
  | .ok (u, n) => .tuple #[.int .u64 u, .int .i64 n, .nilIface]
  | .error k => .tuple #[.int .u64 0, .int .i64 0, .iface 88 (.pointer (some (ea k)))]

set_option maxHeartbeats 400000 in
set_option maxRecDepth 100000 in
theorem uvarint_any (A : Option Addr) (n c : Nat) (l : List UInt8) (w : World) (ea : Nat → Addr) (B : Nat) (he : Env w ea) (hr : Rd w B A n l) (hn : n ≤ 1000000000000) :
    Calls Tryd.prog 19 #[.slice A n c] w fun e w' => e = .returned (uvRes ea (uvar l)) ∧ ∃ m, w' = w.drewN m := by
  have h1 := he.long
  have h2 := he.end_
  clear he
  go_enter Tryd.func19, Tryd.ntmps19
  go_wp2
  go_loop [5, 6, 7, 10] (fun u _ _ i => ∃ k u' : Nat, k ≤ n ∧ k ≤ 9 ∧ i = .int .i64 k ∧ u = .int .u64 u' ∧ u' < 2 ^ (7 * k) ∧ uvar l = uvarF (l.drop k) k u') (fun _ _ _ i => n - (intOf i).toNat)
  case atStart => exact ⟨0, 0, by omega, by omega, rfl, rfl, by simp, rfl⟩
  case round =>
    obtain ⟨k, u', hk, hk9, rfl, rfl, hu, huv⟩ := hrel
    have HU := Lib.hid hu; clear hu
    have hs0 : 0 ≤ 7 * (k : Int) := by omega
    have hs1 : 7 * (k : Int) ≤ 64 := by omega
    by_cases hlt : k < n
    · obtain ⟨ad, rfl, hb, hc⟩ := hr.at_ hlt
      have hd := drop_at l k (by rw [hr.len]; exact hlt)
      rw [hd, uvarF_cons] at huv
      have HV := Lib.hid huv; clear huv
      clear hd hr
      have hx : (l.getD k 0).toNat < 256 := (l.getD k 0).toNat_lt
      generalize hxx : (l.getD k 0).toNat = x at hc hx HV
      clear hxx
      by_cases h9 : k = 9 ∧ 1 < x
      · have HW : Hid (uvar l = .error 102) := by have := HV.out; rw [if_pos h9] at this; exact this
        have t9 : ((k : Int) == 9) = true := by simp; omega
        have hx1 := h9.2
        clear HV h9
        go_wp2
        go_region
        go_wp2
        go_ret3
        exact ⟨by rw [HW.out]; rfl, 1, rfl⟩
      · by_cases hx1 : x < 128
        · have HW : Hid (uvar l = .ok (u' + x * 2 ^ (7 * k), k + 1)) := by have := HV.out; rw [if_neg h9, if_pos hx1] at this; exact this
          have HS : Hid (bits .or .u64 (u' : Int) (IntKind.u64.wrap (IntKind.u64.wrap (bits .and .u8 (x : Int) 127) * 2 ^ (7 * k))) = ((u' + x * 2 ^ (7 * k) : Nat) : Int)) := by
            have := uv_step u' x k hx (by omega) HU.out
            rw [Nat.mod_eq_of_lt hx1] at this; exact this
          clear HV
          by_cases h9' : k = 9
          · have t9 : ((k : Int) == 9) = true := by simp; omega
            have hx2 : ¬ 1 < x := fun h => h9 ⟨h9', h⟩
            clear h9 h9'
            go_wp2
            go_ret3
            exact ⟨by rw [HW.out, HS.out]; rfl, 0, rfl⟩
          · have t9 : ((k : Int) == 9) = false := by simp; omega
            clear h9 h9'
            go_wp2
            go_ret3
            exact ⟨by rw [HW.out, HS.out]; rfl, 0, rfl⟩
        · have HW : Hid (uvar l = uvarF (l.drop (k + 1)) (k + 1) (u' + (x - 128) * 2 ^ (7 * k))) := by have := HV.out; rw [if_neg h9, if_neg hx1] at this; exact this
          have h8 : k ≤ 8 := by omega
          have HS : Hid (bits .or .u64 (u' : Int) (IntKind.u64.wrap (IntKind.u64.wrap (bits .and .u8 (x : Int) 127) * 2 ^ (7 * k))) = ((u' + (x - 128) * 2 ^ (7 * k) : Nat) : Int)) := by
            have := uv_step u' x k hx (by omega) HU.out
            rw [show x % 128 = x - 128 by omega] at this; exact this
          have HL := Lib.hid (uv_lt u' (x - 128) k HU.out (by omega))
          have t9 : ((k : Int) == 9) = false := by simp; omega
          clear HV h9
          go_wp2
          go_round
          case rel => exact ⟨k + 1, u' + (x - 128) * 2 ^ (7 * k), by omega, by omega, by go_num, by rw [HS.out], HL.out, HW.out⟩
          case measure => simp [intOf]; omega
    · have HW : Hid (uvar l = .error 101) := by
        rw [huv, List.drop_eq_nil_of_le (by rw [hr.len]; omega)]; rfl
      clear huv hr
      go_wp2
      go_region
      go_wp2
      go_ret3
      exact ⟨by rw [HW.out]; rfl, 1, rfl⟩

def untagRes (ea : Nat → Addr) : Except Nat (Nat × Nat) → Value
  | .ok (f, k) => .tuple #[.int .i64 f, .int .i64 k, .nilIface]
  | .error k => .tuple #[.int .i64 0, .int .i64 0, .iface 88 (.pointer (some (ea k)))]

theorem bits_u64_and7 (u : Nat) (hu : u < 18446744073709551616) : bits .and .u64 (u : Int) 7 = (u : Int) % 8 := by
  have := u64_and_nat u 7 hu (by decide)
  rw [show ((7 : Nat) : Int) = 7 from rfl] at this
  rw [this, show u &&& 7 = u % 8 from Nat.and_two_pow_sub_one_eq_mod u 3]
  omega
theorem untag_no {u : Nat} (h : u / 8 < 1 ∨ 536870911 < u / 8 ∨ 5 < u % 8) : untag u = .error 103 := by unfold untag; rw [if_pos h]
theorem untag_yes {u : Nat} (h1 : 1 ≤ u / 8) (h2 : u / 8 ≤ 536870911) (h3 : u % 8 ≤ 5) : untag u = .ok (u / 8, u % 8) := by unfold untag; rw [if_neg (by omega)]

set_option maxHeartbeats 400000 in
set_option maxRecDepth 100000 in
theorem untag_any (u : Nat) (w : World) (ea : Nat → Addr) (he : Env w ea) (hu : u < 18446744073709551616) :
    Calls Tryd.prog 26 #[.int .u64 (u : Int)] w fun e w' => e = .returned (untagRes ea (untag u)) ∧ ∃ m, w' = w.drewN m := by
  have h1 := he.tag
  clear he
  have h7 := bits_u64_and7 u hu
  by_cases h : u / 8 < 1 ∨ 536870911 < u / 8 ∨ 5 < u % 8
  · have HF := Lib.hid (untag_no h)
    go_enter Tryd.func26, Tryd.ntmps26
    go_wp2
    all_goals first
      | (go_region; go_wp2; go_ret3; exact ⟨by rw [HF.out]; rfl, 1, rfl⟩)
      | (exfalso; omega)
  · have HF := Lib.hid (untag_yes (u := u) (by omega) (by omega) (by omega))
    have g1 : ¬ (u : Int) / 8 < 1 := by omega
    have g2 : ¬ 536870911 < (u : Int) / 8 := by omega
    have g3 : ¬ 5 < (u : Int) % 8 := by omega
    clear h
    go_enter Tryd.func26, Tryd.ntmps26
    go_wp2
    go_ret3
    exact ⟨by rw [HF.out]; simp [untagRes], 0, rfl⟩

def tagRes (ea : Nat → Addr) (z : Nat) : Except Nat (Nat × Nat × Nat) → Value
  | .ok (f, k, n) => .tuple #[.int .i64 f, .int .i64 k, .int .i64 n, .nilIface]
  | .error k => .tuple #[.int .i64 0, .int .i64 0, .int .i64 (z : Int), .iface 88 (.pointer (some (ea k)))]
/-- The bytes that are told beside an error. -/
def tagZ (l : List UInt8) : Nat := match uvar l with
  | .ok (_, n) => n
  | .error _ => 0
theorem tagZ_ok {l : List UInt8} {u n : Nat} (h : uvar l = .ok (u, n)) : tagZ l = n := by unfold tagZ; rw [h]
theorem tagZ_err {l : List UInt8} {k : Nat} (h : uvar l = .error k) : tagZ l = 0 := by unfold tagZ; rw [h]


theorem tagOf_err1 {l : List UInt8} {k : Nat} (h : uvar l = .error k) : tagOf l = .error k := by unfold tagOf; rw [h]
theorem tagOf_err2 {l : List UInt8} {u n k : Nat} (h : uvar l = .ok (u, n)) (h' : untag u = .error k) : tagOf l = .error k := by unfold tagOf; rw [h]; simp only [h']
theorem tagOf_ok {l : List UInt8} {u n f k : Nat} (h : uvar l = .ok (u, n)) (h' : untag u = .ok (f, k)) : tagOf l = .ok (f, k, n) := by unfold tagOf; rw [h]; simp only [h']

theorem results_four {fn : Func} {t u v x : Tmp} (h : fn.results = #[.tmp t, .tmp u, .tmp v, .tmp x]) (tmps : Array Value) (P : Program) (w : World) :
    (results fn tmps).run P w = .ok (.tuple #[tmps.getD t undef, tmps.getD u undef, tmps.getD v undef, tmps.getD x undef]) w := by simp [results, h]

set_option maxHeartbeats 400000 in
set_option maxRecDepth 100000 in
theorem tag_any (A : Option Addr) (n c : Nat) (l : List UInt8) (w : World) (ea : Nat → Addr) (B : Nat) (he : Env w ea) (hr : Rd w B A n l) (hn : n ≤ 1000000000000) :
    Calls Tryd.prog 28 #[.slice A n c] w fun e w' => e = .returned (tagRes ea (tagZ l) (tagOf l)) ∧ ∃ m, w' = w.drewN m := by
  have HE := Lib.hid he; clear he
  have HR := Lib.hid hr; clear hr
  rcases hu : uvar l with k | ⟨u, m⟩
  · have HU := Lib.hid hu; clear hu
    go_enter Tryd.func28, Tryd.ntmps28
    go_wp2_with fail
    refine (uvarint_any A n c l _ ea B HE.out HR.out hn).mono ?_
    rintro e w' ⟨rfl, m1, rfl⟩
    rw [HU.out, uvRes]
    go_wp2
    refine bodyPost_ret (results_four rfl _ _ _) rfl ?_
    exact ⟨by rw [tagOf_err1 HU.out, tagZ_err HU.out]; rfl, m1, rfl⟩
  · have hb := uvar_ok hu
    have HU := Lib.hid hu; clear hu
    rcases hv : untag u with k | ⟨f, k⟩
    all_goals
      have HV := Lib.hid hv; clear hv
      go_enter Tryd.func28, Tryd.ntmps28
      go_wp2_with fail
      refine (uvarint_any A n c l _ ea B HE.out HR.out hn).mono ?_
      rintro e w' ⟨rfl, m1, rfl⟩
      rw [HU.out, uvRes]
      go_wp2_with fail
      refine (untag_any u _ ea (HE.out.drewN m1) hb.2.2.2).mono ?_
      rintro e w' ⟨rfl, m2, rfl⟩
      rw [HV.out, untagRes]
      go_wp2
      refine bodyPost_ret (results_four rfl _ _ _) rfl ?_
    · exact ⟨by rw [tagOf_err2 HU.out HV.out, tagZ_ok HU.out]; rfl, m1 + m2, by simp⟩
    · exact ⟨by rw [tagOf_ok HU.out HV.out]; rfl, m1 + m2, by simp⟩
end Go.Proofs.YtnahkhiomnkbcaaDoor
