/-
  Contracts: the reader's take, must, digits, two, fraction.
-/
import Derived.Test.YtacmlpgakibdgaaDoorSt6
import Derived.WalkMore
import Derived.ScopeJumps
namespace Go.Proofs.YtacmlpgakibdgaaDoor
open Go.RowKit Go.Own Go.Own.Dig Go.Own.Alg

/-- The reader's block. -/
def RB (w : World) (g : Nat) (x : St) : Prop := Blk w g 58 #[.string ⟨x.1.toArray⟩, .bool x.2]
/-- What a method of the reader leaves. -/
def RdPost (g : Nat) (x : St) (w w' : World) : Prop := RB w' g x ∧ w.grownBy w' (some g)
theorem RdPost.trans {g : Nat} {x y : St} {a b c : World} (h : RdPost g x a b) (k : RdPost g y b c) : RdPost g y a c := ⟨k.1, grown_trans h.2 k.2⟩

theorem RB.cells {w : World} {g : Nat} {x : St} (h : RB w g x) : w.cell? ⟨g, 0, none⟩ = some (.string ⟨x.1.toArray⟩) ∧ w.cell? ⟨g, 1, none⟩ = some (.bool x.2) ∧ w.frozen? ⟨g, 0, none⟩ = false ∧ w.frozen? ⟨g, 1, none⟩ = false :=
  ⟨Blk.cell h 0, Blk.cell h 1, Blk.frozen h 0, Blk.frozen h 1⟩
theorem RB.put0 {w : World} {g : Nat} {x : St} (h : RB w g x) (s : List UInt8) : RdPost g (s, x.2) w (w.setCell ⟨g, 0, none⟩ (.string ⟨s.toArray⟩)) :=
  ⟨Blk.put h 0 _, grown_setCell (World.grownBy.refl w _) 0 _⟩
theorem RB.put1 {w : World} {g : Nat} {x : St} (h : RB w g x) (b : Bool) : RdPost g (x.1, b) w (w.setCell ⟨g, 1, none⟩ (.bool b)) :=
  ⟨Blk.put h 1 _, grown_setCell (World.grownBy.refl w _) 1 _⟩

set_option maxHeartbeats 400000 in
theorem take_any (g : Nat) (l p : List UInt8) (bad : Bool) (w : World) (hb : RB w g (l, bad)) :
    Calls Tryd.prog 31 #[.pointer (some ⟨g, 0, none⟩), .string ⟨p.toArray⟩] w fun e w' => e = .returned (.bool (Lib.hasPrefix l p)) ∧ RdPost g (Lib.trimPrefix l p, bad) w w' := by
  obtain ⟨c0, c1, z0, z1⟩ := hb.cells
  have HP := Lib.hid (hb.put0 (Lib.trimPrefix l p))
  have HX := Lib.hid (fun W => Tryd.strings_CutPrefix ⟨l.toArray⟩ ⟨p.toArray⟩ W)
  simp only at c0 c1 HX HP
  generalize Lib.trimPrefix l p = T at *
  generalize Lib.hasPrefix l p = H at *
  clear hb
  go_enter Tryd.func31, Tryd.ntmps31
  go_wp2_with fail
  refine (HX.out _).mono ?_
  rintro e w1 ⟨rfl, rfl⟩
  go_wp2
  go_ret
  exact ⟨rfl, HP.out⟩

set_option maxHeartbeats 400000 in
theorem must_any (g : Nat) (l p : List UInt8) (bad : Bool) (w : World) (hb : RB w g (l, bad)) :
    Calls Tryd.prog 28 #[.pointer (some ⟨g, 0, none⟩), .string ⟨p.toArray⟩] w fun e w' => (∃ v, e = .returned v) ∧ RdPost g (rMust p (l, bad)) w w' := by
  have HT := Lib.hid (take_any g l p bad w hb)
  unfold rMust
  simp only
  generalize Lib.trimPrefix l p = T at *
  generalize Lib.hasPrefix l p = H at *
  clear hb
  go_enter Tryd.func28, Tryd.ntmps28
  go_wp2_with fail
  refine HT.out.mono ?_
  rintro e w1 ⟨rfl, hp⟩
  obtain ⟨c0, c1, z0, z1⟩ := hp.1.cells
  have HP := Lib.hid (hp.trans (hp.1.put1 (!H || bad)))
  clear hp
  rcases H with _ | _
  · go_wp2
    go_end0
    exact ⟨⟨_, rfl⟩, HP.out⟩
  · go_wp2
    go_end0
    exact ⟨⟨_, rfl⟩, HP.out⟩

theorem arr71 (t : Array Value) (h : t.size = 71) : t = (t.getD 0 undef :: t.getD 1 undef :: t.getD 2 undef :: t.getD 3 undef :: t.getD 4 undef :: t.getD 5 undef :: t.getD 6 undef :: t.getD 7 undef :: t.getD 8 undef :: t.getD 9 undef :: t.getD 10 undef :: t.getD 11 undef :: t.getD 12 undef :: t.getD 13 undef :: t.getD 14 undef :: t.getD 15 undef :: t.getD 16 undef :: t.getD 17 undef :: t.getD 18 undef :: t.getD 19 undef :: t.getD 20 undef :: t.getD 21 undef :: t.getD 22 undef :: t.getD 23 undef :: t.getD 24 undef :: t.getD 25 undef :: t.getD 26 undef :: t.getD 27 undef :: t.getD 28 undef :: t.getD 29 undef :: t.getD 30 undef :: t.getD 31 undef :: t.getD 32 undef :: t.getD 33 undef :: t.getD 34 undef :: t.getD 35 undef :: t.getD 36 undef :: t.getD 37 undef :: t.getD 38 undef :: t.getD 39 undef :: t.getD 40 undef :: t.getD 41 undef :: t.getD 42 undef :: t.getD 43 undef :: t.getD 44 undef :: t.getD 45 undef :: t.getD 46 undef :: t.getD 47 undef :: t.getD 48 undef :: t.getD 49 undef :: t.getD 50 undef :: t.getD 51 undef :: t.getD 52 undef :: t.getD 53 undef :: t.getD 54 undef :: t.getD 55 undef :: t.getD 56 undef :: t.getD 57 undef :: t.getD 58 undef :: t.getD 59 undef :: t.getD 60 undef :: t.getD 61 undef :: t.getD 62 undef :: t.getD 63 undef :: t.getD 64 undef :: t.getD 65 undef :: t.getD 66 undef :: t.getD 67 undef :: t.getD 68 undef :: t.getD 69 undef :: t.getD 70 undef :: []).toArray := by
  obtain ⟨l⟩ := t
  simp only [List.size_toArray] at h
  match l, h with
  | x0 :: x1 :: x2 :: x3 :: x4 :: x5 :: x6 :: x7 :: x8 :: x9 :: x10 :: x11 :: x12 :: x13 :: x14 :: x15 :: x16 :: x17 :: x18 :: x19 :: x20 :: x21 :: x22 :: x23 :: x24 :: x25 :: x26 :: x27 :: x28 :: x29 :: x30 :: x31 :: x32 :: x33 :: x34 :: x35 :: x36 :: x37 :: x38 :: x39 :: x40 :: x41 :: x42 :: x43 :: x44 :: x45 :: x46 :: x47 :: x48 :: x49 :: x50 :: x51 :: x52 :: x53 :: x54 :: x55 :: x56 :: x57 :: x58 :: x59 :: x60 :: x61 :: x62 :: x63 :: x64 :: x65 :: x66 :: x67 :: x68 :: x69 :: x70 :: [], _ => rfl

/-- What holds wherever the digits are gone on with. -/
structure DJ (g lo hi : Nat) (l : List UInt8) (bad : Bool) (w : World) (a : Act) (W : World) (n c : Nat) (r : List UInt8) : Prop where
  dfr : a.defers = []
  size : a.tmps.size = 71
  s0 : a.tmps.getD 0 undef = .pointer (some ⟨g, 0, none⟩)
  s1 : a.tmps.getD 1 undef = .int .i64 (lo : Int)
  s2 : a.tmps.getD 2 undef = .int .i64 (hi : Int)
  s6 : a.tmps.getD 6 undef = .int .i64 0
  s7 : a.tmps.getD 7 undef = .int .i64 0
  s8 : a.tmps.getD 8 undef = .int .i64 (n : Int)
  s9 : a.tmps.getD 9 undef = .int .i64 (c : Int)
  le : c ≤ hi
  bound : n < 10 ^ c
  post : RdPost g (r, bad) w W
  goes : rdl (hi - c) r n c = rdl hi l 0 0
theorem DJ.frame {g lo hi : Nat} {l : List UInt8} {bad : Bool} {w : World} {a : Act} {W : World} {n c : Nat} {r : List UInt8} (h : DJ g lo hi l bad w a W n c r) : ∃ u : Nat → Value,
    a = { tmps := (.pointer (some ⟨g, 0, none⟩) :: .int .i64 (lo : Int) :: .int .i64 (hi : Int) :: u 3 :: u 4 :: u 5 :: .int .i64 0 :: .int .i64 0 :: .int .i64 (n : Int) :: .int .i64 (c : Int) :: u 10 :: u 11 :: u 12 :: u 13 :: u 14 :: u 15 :: u 16 :: u 17 :: u 18 :: u 19 :: u 20 :: u 21 :: u 22 :: u 23 :: u 24 :: u 25 :: u 26 :: u 27 :: u 28 :: u 29 :: u 30 :: u 31 :: u 32 :: u 33 :: u 34 :: u 35 :: u 36 :: u 37 :: u 38 :: u 39 :: u 40 :: u 41 :: u 42 :: u 43 :: u 44 :: u 45 :: u 46 :: u 47 :: u 48 :: u 49 :: u 50 :: u 51 :: u 52 :: u 53 :: u 54 :: u 55 :: u 56 :: u 57 :: u 58 :: u 59 :: u 60 :: u 61 :: u 62 :: u 63 :: u 64 :: u 65 :: u 66 :: u 67 :: u 68 :: u 69 :: u 70 :: []).toArray, defers := [] } := by
  refine ⟨fun k => a.tmps.getD k undef, ?_⟩
  obtain ⟨t, df⟩ := a
  have h1 := h.dfr
  have h2 := arr71 t h.size
  have e0 := h.s0; have e1 := h.s1; have e2 := h.s2; have e6 := h.s6; have e7 := h.s7; have e8 := h.s8; have e9 := h.s9
  simp only at h1 e0 e1 e2 e6 e7 e8 e9
  rw [h1]
  congr 1
  rw [e0, e1, e2, e6, e7, e8, e9] at h2
  exact h2

theorem head_bytes (b : UInt8) (r : List UInt8) : ∃ t : ByteArray, t = ⟨(b :: r).toArray⟩ ∧ ∃ h : 0 < t.size, (0 : Int) < (t.size : Int) ∧ t[0]'h = b ∧ t.extract 1 t.size = ⟨r.toArray⟩ := by
  refine ⟨_, rfl, (by simp [ByteArray.size]), (by simp [ByteArray.size]), rfl, ?_⟩
  apply ByteArray.ext
  simp [ByteArray.size]

set_option maxHeartbeats 1000000 in
set_option maxRecDepth 100000 in
theorem digits_any (g lo hi : Nat) (l : List UInt8) (bad : Bool) (w : World) (hb : RB w g (l, bad)) (hhi : hi ≤ 12) (hlo : lo ≤ 12) (hl : l.length ≤ 1000000000000) :
    Calls Tryd.prog 27 #[.pointer (some ⟨g, 0, none⟩), .int .i64 (lo : Int), .int .i64 (hi : Int)] w fun e w' => e = .returned (.tuple #[.int .i64 ((rDig lo hi (l, bad)).1 : Int), .int .i64 ((rDig lo hi (l, bad)).2.1 : Int)]) ∧ RdPost g (rDig lo hi (l, bad)).2.2 w w' := by
  have HB := Lib.hid hb
  clear hb
  go_enter Tryd.func27, Tryd.ntmps27
  go_wp2
  refine wp_scope_jumps 0 (fun a W => ∃ n c r, DJ g lo hi l bad w a W n c r) (fun a _ => hi - (intOf (a.tmps.getD 9 undef)).toNat) rfl ?_ ?_
  · go_wp2
    go_step3
    obtain ⟨r, hr0⟩ : ∃ r, r = l := ⟨l, rfl⟩
    have HP : Hid (RdPost g (r, bad) w w) := Lib.hid (by rw [hr0]; exact ⟨HB.out, World.grownBy.refl _ _⟩)
    have HN : Hid (0 < 10 ^ 0) := Lib.hid (by decide)
    have HG : Hid (rdl (hi - 0) r 0 0 = rdl hi l 0 0) := Lib.hid (by rw [hr0]; rfl)
    clear hr0
    obtain ⟨c0, c1, z0, z1⟩ := (HP.out.1).cells
    simp only at c0 c1
    have hn12 : 0 ≤ 1000000000000 := by
      have h1 : 10 ^ 0 ≤ 10 ^ 12 := Nat.pow_le_pow_right (by omega) (by omega)
      have := HN.out
      omega
    by_cases hA : 0 < hi ∧ ∃ b r', r = b :: r' ∧ isD b = true
    · obtain ⟨hlt, b, r', hrr, hd⟩ := hA
      have hbd := of_decide_eq_true hd
      obtain ⟨hb1, hb2⟩ := hbd
      have HG2 : Hid (rdl (hi - (0 + 1)) r' (10 * 0 + (b.toNat - 48)) (0 + 1) = rdl hi l 0 0) := Lib.hid (by
        have := HG.out
        rw [show hi - 0 = (hi - (0 + 1)) + 1 by omega, hrr, rdl, if_pos hd] at this
        exact this)
      obtain ⟨t, ht, hz1, hz2, ht0, hte⟩ := head_bytes b r'
      rw [hrr, ← ht] at c0
      have hb0 : (t[0]'hz1).toNat = b.toNat := by rw [ht0]
      clear ht0 ht
      have HN2 : Hid (10 * 0 + (b.toNat - 48) < 10 ^ (0 + 1)) := Lib.hid (by have := HN.out; rw [Nat.pow_succ]; omega)
      have HP2 := Lib.hid (HP.out.trans (HP.out.1.put0 r'))
      clear hd HN HP HG hrr
      go_wp2
      go_step3
      exact ⟨rfl, 10 * 0 + (b.toNat - 48), 0 + 1, r', rfl, rfl, rfl, rfl, rfl, rfl, rfl, congrArg (Value.int .i64) (by omega), congrArg (Value.int .i64) (by omega), by omega, HN2.out, HP2.out, HG2.out⟩
    · have HR : Hid (rdl hi l 0 0 = (0, 0, r)) := Lib.hid (by
        rw [← HG.out]
        by_cases hc : 0 < hi
        · refine rdl_stop _ _ _ _ (fun b r' e => ?_)
          by_cases hd : isD b = true
          · exact absurd ⟨hc, b, r', e, hd⟩ hA
          · simpa using hd
        · rw [show hi - 0 = 0 by omega, rdl])
      have HP3 := Lib.hid (HP.out.trans (HP.out.1.put1 (bad || decide (0 < lo))))
      clear HN HP HG
      by_cases hc : 0 < hi
      · rcases hr : r with _ | ⟨b, r'⟩
        · rw [hr] at c0 HR HP3
          have e0 : w.cell? ⟨g, 0, none⟩ = some (.string ⟨#[]⟩) := c0
          clear c0 hA hr
          rcases bad with _ | _
          all_goals
            go_wp2
            simp only [Exit.jump]
            go_ret2
            exact ⟨by unfold rDig; rw [HR.out]; rfl, by unfold rDig; rw [HR.out]; exact HP3.out⟩
        · have hnd : ¬ isD b = true := fun hd => hA ⟨hc, b, r', hr, hd⟩
          have hnb : ¬ (48 ≤ b.toNat ∧ b.toNat ≤ 57) := fun h => hnd (decide_eq_true h)
          rw [hr] at c0 HR HP3
          obtain ⟨t, ht, hz1, hz2, ht0, hte⟩ := head_bytes b r'
          rw [← ht] at c0
          have hb0 : (t[0]'hz1).toNat = b.toNat := by rw [ht0]
          clear ht0 ht hA hr hnd
          by_cases h48 : 48 ≤ b.toNat
          · have h57 : ¬ b.toNat ≤ 57 := fun h => hnb ⟨h48, h⟩
            clear hnb
            rcases bad with _ | _
            all_goals
              go_wp2
              simp only [Exit.jump]
              go_ret2
              exact ⟨by unfold rDig; rw [HR.out]; rfl, by unfold rDig; rw [HR.out]; exact HP3.out⟩
          · clear hnb
            rcases bad with _ | _
            all_goals
              go_wp2
              simp only [Exit.jump]
              go_ret2
              exact ⟨by unfold rDig; rw [HR.out]; rfl, by unfold rDig; rw [HR.out]; exact HP3.out⟩
      · clear hA
        rcases bad with _ | _
        all_goals
          go_wp2
          simp only [Exit.jump]
          go_ret2
          exact ⟨by unfold rDig; rw [HR.out]; rfl, by unfold rDig; rw [HR.out]; exact HP3.out⟩
  · rintro a W ⟨n, c, r, hj⟩
    obtain ⟨u, rfl⟩ := hj.frame
    have HP := Lib.hid hj.post
    have HN := Lib.hid hj.bound
    have HG := Lib.hid hj.goes
    have hcle := hj.le
    clear hj
    obtain ⟨c0, c1, z0, z1⟩ := (HP.out.1).cells
    simp only at c0 c1
    have hn12 : n ≤ 1000000000000 := by
      have h1 : 10 ^ c ≤ 10 ^ 12 := Nat.pow_le_pow_right (by omega) (by omega)
      have := HN.out
      omega
    by_cases hA : c < hi ∧ ∃ b r', r = b :: r' ∧ isD b = true
    · obtain ⟨hlt, b, r', hrr, hd⟩ := hA
      have hbd := of_decide_eq_true hd
      obtain ⟨hb1, hb2⟩ := hbd
      have HG2 : Hid (rdl (hi - (c + 1)) r' (10 * n + (b.toNat - 48)) (c + 1) = rdl hi l 0 0) := Lib.hid (by
        have := HG.out
        rw [show hi - c = (hi - (c + 1)) + 1 by omega, hrr, rdl, if_pos hd] at this
        exact this)
      obtain ⟨t, ht, hz1, hz2, ht0, hte⟩ := head_bytes b r'
      rw [hrr, ← ht] at c0
      have hb0 : (t[0]'hz1).toNat = b.toNat := by rw [ht0]
      clear ht0 ht
      have HN2 : Hid (10 * n + (b.toNat - 48) < 10 ^ (c + 1)) := Lib.hid (by have := HN.out; rw [Nat.pow_succ]; omega)
      have HP2 := Lib.hid (HP.out.trans (HP.out.1.put0 r'))
      clear hd HN HP HG hrr
      go_wp2
      go_step3
      exact ⟨rfl, ⟨10 * n + (b.toNat - 48), c + 1, r', rfl, rfl, rfl, rfl, rfl, rfl, rfl, congrArg (Value.int .i64) (by omega), congrArg (Value.int .i64) (by omega), by omega, HN2.out, HP2.out, HG2.out⟩, by simp [intOf]; omega⟩
    · have HR : Hid (rdl hi l 0 0 = (n, c, r)) := Lib.hid (by
        rw [← HG.out]
        by_cases hc : c < hi
        · refine rdl_stop _ _ _ _ (fun b r' e => ?_)
          by_cases hd : isD b = true
          · exact absurd ⟨hc, b, r', e, hd⟩ hA
          · simpa using hd
        · rw [show hi - c = 0 by omega, rdl])
      have HP3 := Lib.hid (HP.out.trans (HP.out.1.put1 (bad || decide (c < lo))))
      clear HN HP HG
      by_cases hc : c < hi
      · rcases hr : r with _ | ⟨b, r'⟩
        · rw [hr] at c0 HR HP3
          have e0 : W.cell? ⟨g, 0, none⟩ = some (.string ⟨#[]⟩) := c0
          clear c0 hA hr
          rcases bad with _ | _
          all_goals
            go_wp2
            simp only [Exit.jump]
            go_ret2
            exact ⟨by unfold rDig; rw [HR.out]; rfl, by unfold rDig; rw [HR.out]; exact HP3.out⟩
        · have hnd : ¬ isD b = true := fun hd => hA ⟨hc, b, r', hr, hd⟩
          have hnb : ¬ (48 ≤ b.toNat ∧ b.toNat ≤ 57) := fun h => hnd (decide_eq_true h)
          rw [hr] at c0 HR HP3
          obtain ⟨t, ht, hz1, hz2, ht0, hte⟩ := head_bytes b r'
          rw [← ht] at c0
          have hb0 : (t[0]'hz1).toNat = b.toNat := by rw [ht0]
          clear ht0 ht hA hr hnd
          by_cases h48 : 48 ≤ b.toNat
          · have h57 : ¬ b.toNat ≤ 57 := fun h => hnb ⟨h48, h⟩
            clear hnb
            rcases bad with _ | _
            all_goals
              go_wp2
              simp only [Exit.jump]
              go_ret2
              exact ⟨by unfold rDig; rw [HR.out]; rfl, by unfold rDig; rw [HR.out]; exact HP3.out⟩
          · clear hnb
            rcases bad with _ | _
            all_goals
              go_wp2
              simp only [Exit.jump]
              go_ret2
              exact ⟨by unfold rDig; rw [HR.out]; rfl, by unfold rDig; rw [HR.out]; exact HP3.out⟩
      · clear hA
        rcases bad with _ | _
        all_goals
          go_wp2
          simp only [Exit.jump]
          go_ret2
          exact ⟨by unfold rDig; rw [HR.out]; rfl, by unfold rDig; rw [HR.out]; exact HP3.out⟩
end Go.Proofs.YtacmlpgakibdgaaDoor
