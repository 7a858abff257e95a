/-
  Contracts: parleylaw6.first: the chapter's examples; parleylaw6.light.
-/
import Derived.Test.YtkikcinpgbgbdaaDoorLn
import Derived.LaidEql
namespace Go.Own.Hd
def rules4b : List (RuleF Req4) := [⟨colM, true, fun v r => (!v.data.toList.isEmpty, { r with m := v })⟩, ⟨colS, true, fun v r => (!v.data.toList.isEmpty, { r with s := v })⟩, ⟨colP, true, fun v r => (v.data.toList == [42] || Lib.hasPrefix v.data.toList [47], { r with p := v })⟩, takeA]
theorem rules4_eq : rules4 = rules4b := by
  unfold rules4 rules4b takeM takeS takeP
  simp only [Lib.toList_data]
def hM : HdrV := ⟨⟨#[58, 109, 101, 116, 104, 111, 100]⟩, ⟨#[80, 79, 83, 84]⟩, false⟩
def hP : HdrV := ⟨⟨#[58, 112, 97, 116, 104]⟩, ⟨#[47, 97]⟩, false⟩
def hS : HdrV := ⟨⟨#[58, 115, 99, 104, 101, 109, 101]⟩, ⟨#[104, 116, 116, 112]⟩, false⟩
def hT : HdrV := ⟨⟨#[116, 101]⟩, ⟨#[116, 114, 97, 105, 108, 101, 114, 115]⟩, false⟩
def h2 : HdrV := ⟨⟨#[58, 115, 116, 97, 116, 117, 115]⟩, ⟨#[50, 48, 48]⟩, false⟩
theorem ex_open : openS rules4 [hM, hP, hS, hT] req0 = some ([hT], ⟨⟨#[80, 79, 83, 84]⟩, ⟨#[104, 116, 116, 112]⟩, ⟨#[]⟩, ⟨#[47, 97]⟩⟩) := by rw [rules4_eq]; kernel_rfl
theorem ex_not : openS rules4 [hM, hP] req0 = none := by rw [rules4_eq]; kernel_rfl
theorem ex_ans : openS rules1 [h2] 0 = some ([], 200) := by kernel_rfl
end Go.Own.Hd
namespace Go.Proofs.YtkikcinpgbgbdaaDoor
open Go.RowKit Go.Own Go.Own.Hd Go.Own.Fn Go.WideShapes
theorem hr_lit {W : World} {g : Nat} {l : List HdrV} (h : Blk W g 26 (hcells l).toArray) : Hr W (some ⟨g, 0, none⟩) l.length l := by
  refine ⟨rfl, fun j u hu => ⟨_, rfl, h.lt, ?_⟩⟩
  have := h.cell j
  rw [show (⟨g, 0, none⟩ : Addr).add j = ⟨g, j, none⟩ by cases j <;> simp [Addr.add]]
  rw [this]
  simpa using hu
theorem Hr.take {w : World} {A : Option Addr} {n k : Nat} {l : List HdrV} (h : Hr w A n l) (hk : k ≤ n) : Hr w A k (l.take k) := by
  refine ⟨by rw [List.length_take, h.1]; omega, fun j u hu => h.2 j u ?_⟩
  have e : hcells l = hcells (l.take k) ++ hcells (l.drop k) := by rw [← hcells_append, List.take_append_drop]
  rw [e, List.getElem?_append_left (List.getElem?_eq_some_iff.1 hu).1]
  exact hu
theorem szs_lit (l : List HdrV) (h : ∀ x ∈ l, x.name.size ≤ 1000000000 ∧ x.value.size ≤ 1000000000) : Szs l := h
theorem err_same (a : Addr) (W : World) : (binOp .eql 31 (.iface 107 (.pointer (some a))) (.iface 107 (.pointer (some a)))).run Tryd.prog W = .ok (.bool true) W := by
  obtain ⟨j, hj, hjs⟩ := Option.map_eq_some_iff.1 (show (Tryd.prog.info? 109).map (·.size) = some 1 by kernel_rfl)
  obtain ⟨i, hi, hcmp⟩ := Option.map_eq_some_iff.1 (show (Tryd.prog.info? 107).map (·.comparable) = some true by kernel_rfl)
  simpa using run_eql_iface_ptr_same (P := Tryd.prog) W a Tryd.underlying31 Tryd.underlying107 hi hcmp hj

def FstPost (w : World) (e : Ending) (w' : World) : Prop := e = .returned (.bool true) ∧ Below w.heap.size w w'
set_option maxHeartbeats 4000000 in
set_option maxRecDepth 100000 in
theorem first_any (w : World) {e1 e2 e3 : Addr} (he : EnvH w e1 e2 e3) : Calls Tryd.prog 6 #[] w (FstPost w) := by
  have HE := Lib.hid he
  clear he
  go_enter Tryd.func6, Tryd.ntmps6
  go_wp2_with fail
  have hB := Blk.new w 26 (hcells [hM, hP, hS, hT]).toArray
  have hb0 : Below w.heap.size w (w.alloc (.cells (hcells [hM, hP, hS, hT]).toArray 26)) := (Below.refl _ _).alloc (Nat.le_refl _) _
  have C1 := Lib.hid (open_any (some ⟨w.heap.size, 0, none⟩) 4 4 [hM, hP, hS, hT] _ (HE.out.below hb0 HE.out.room) (by decide) (by decide) (hr_lit hB) (szs_lit _ (by decide)))
  rw [ex_open] at C1
  have HB := Lib.hid hB
  have HB0 := Lib.hid hb0
  clear hB hb0
  refine C1.out.mono ?_
  rintro e w1 ⟨g1, h1⟩
  rcases h1 with ⟨h1, _⟩ | ⟨rest, s, h1, A1, c1, rfl, hw1⟩
  · cases h1
  · injection h1 with h1
    injection h1 with h1 h2
    subst h1 h2
    have HB1 := Lib.hid (HB0.out.trans (g1.mono HB0.out.size))
    have HBl := Lib.hid (HB.out.below g1 HB.out.lt)
    clear g1 hw1 C1
    go_wp2_with fail
    have hb2 : Below w.heap.size w (w1.alloc (.cells #[.string ⟨#[80, 79, 83, 84]⟩, .string ⟨#[104, 116, 116, 112]⟩, .string ⟨#[]⟩, .string ⟨#[47, 97]⟩, .slice A1 1 c1] 29)) := HB1.out.alloc HB1.out.size _
    have hbl2 := HBl.out.alloc (.cells #[.string ⟨#[80, 79, 83, 84]⟩, .string ⟨#[104, 116, 116, 112]⟩, .string ⟨#[]⟩, .string ⟨#[47, 97]⟩, .slice A1 1 c1] 29)
    have hq2 := Blk.new w1 29 #[.string ⟨#[80, 79, 83, 84]⟩, .string ⟨#[104, 116, 116, 112]⟩, .string ⟨#[]⟩, .string ⟨#[47, 97]⟩, .slice A1 1 c1]
    have C2 := Lib.hid (open_any (some ⟨w.heap.size, 0, none⟩) 2 4 [hM, hP] _ (HE.out.below hb2 HE.out.room) (by decide) (by decide) ((hr_lit hbl2).take (k := 2) (by decide)) (szs_lit _ (by decide)))
    rw [ex_not] at C2
    have HB2 := Lib.hid hb2
    have HQ2 := Lib.hid hq2
    clear hb2 hbl2 hq2 HB1 HBl
    refine C2.out.mono ?_
    rintro e w2 ⟨g2, h2⟩
    rcases h2 with ⟨_, rfl⟩ | ⟨_, _, h2, _⟩
    · have HB3 := Lib.hid (HB2.out.trans (g2.mono HB2.out.size))
      have HQ3 := Lib.hid (HQ2.out.below g2 HQ2.out.lt)
      clear g2 C2 HB2 HQ2
      unfold errH
      go_wp2_with fail
      have hb4 := (HB3.out.alloc HB3.out.size (.cells #[.string ⟨#[]⟩, .string ⟨#[]⟩, .string ⟨#[]⟩, .string ⟨#[]⟩, .slice none 0 0] 29))
      have hs4 : (w2.alloc (.cells #[.string ⟨#[]⟩, .string ⟨#[]⟩, .string ⟨#[]⟩, .string ⟨#[]⟩, .slice none 0 0] 29)).heap.size = w2.heap.size + 1 := by simp
      have hb5 := hb4.alloc hb4.size (.cells (hcells [h2]).toArray 26)
      have hn5 := Blk.new (w2.alloc (.cells #[.string ⟨#[]⟩, .string ⟨#[]⟩, .string ⟨#[]⟩, .string ⟨#[]⟩, .slice none 0 0] 29)) 26 (hcells [h2]).toArray
      rw [hs4] at hn5
      have C3 := Lib.hid (openAnswer_any (some ⟨w2.heap.size + 1, 0, none⟩) 1 1 [h2] _ (HE.out.below hb5 HE.out.room) (by decide) (by decide) (hr_lit hn5) (szs_lit _ (by decide)))
      rw [ex_ans] at C3
      have HB5 := Lib.hid hb5
      have HQ5 := Lib.hid ((HQ3.out.alloc (.cells #[.string ⟨#[]⟩, .string ⟨#[]⟩, .string ⟨#[]⟩, .string ⟨#[]⟩, .slice none 0 0] 29)).alloc (.cells (hcells [h2]).toArray 26))
      clear hb4 hb5 hn5 hs4 HB3 HQ3
      refine C3.out.mono ?_
      rintro e w3 ⟨g3, h3⟩
      rcases h3 with ⟨h3, _⟩ | ⟨rest3, s3, h3, A3, c3, rfl, hw3⟩
      · cases h3
      · injection h3 with h3
        injection h3 with h3 h4
        subst h3 h4
        have HB6 := Lib.hid (HB5.out.trans (g3.mono HB5.out.size))
        have HQ6 := Lib.hid (HQ5.out.below g3 HQ5.out.lt)
        clear g3 hw3 C3 HB5 HQ5
        go_wp2_with fail
        have hs7 : (w3.alloc (.cells #[.int .i64 200, .slice A3 0 c3] 35)).heap.size = w3.heap.size + 1 := by simp
        have hb7 := (HB6.out.alloc HB6.out.size (.cells #[.int .i64 200, .slice A3 0 c3] 35))
        have hb8 := hb7.alloc hb7.size (.cells #[.string clS, .string o7S, .bool false] 26)
        have hn8 := Blk.new (w3.alloc (.cells #[.int .i64 200, .slice A3 0 c3] 35)) 26 #[.string clS, .string o7S, .bool false]
        rw [hs7] at hn8
        have hr8 := (Blk.new w3 35 #[.int .i64 200, .slice A3 0 c3]).alloc (.cells #[.string clS, .string o7S, .bool false] 26)
        have C4 := Lib.hid (length_one (w3.heap.size + 1) _ hn8)
        have HB8 := Lib.hid hb8
        have HR8 := Lib.hid hr8
        have HQ8 := Lib.hid ((HQ6.out.alloc (.cells #[.int .i64 200, .slice A3 0 c3] 35)).alloc (.cells #[.string clS, .string o7S, .bool false] 26))
        clear hs7 hb7 hb8 hn8 hr8 HB6 HQ6
        refine C4.out.mono ?_
        rintro e w4 ⟨rfl, g4⟩
        have HB9 := Lib.hid (HB8.out.trans (g4.mono HB8.out.size))
        have q1 : w4.cell? ⟨w1.heap.size, 3, none⟩ = some (.string ⟨#[47, 97]⟩) := (HQ8.out.below g4 HQ8.out.lt).cell 3
        have q2 : w4.cell? ⟨w1.heap.size, 4, none⟩ = some (.slice A1 1 c1) := (HQ8.out.below g4 HQ8.out.lt).cell 4
        have q3 : w4.cell? ⟨w3.heap.size, 0, none⟩ = some (.int .i64 200) := (HR8.out.below g4 HR8.out.lt).cell 0
        have q4 := (HE.out.below HB9.out HE.out.room).head
        have q5 := fun W => err_same e1 W
        clear g4 C4 HB8 HQ8 HR8
        go_wp2
        go_ret
        exact ⟨rfl, HB9.out⟩
    · cases h2
def LightPost (n : Nat) (w : World) (e : Ending) (w' : World) : Prop := ∃ b, e = .returned (.bool b) ∧ (b = true → n ≤ 60) ∧ ∃ k, w' = w.drewN k
set_option maxHeartbeats 2000000 in
set_option maxRecDepth 100000 in
/-- parleylaw6.light: it looks, and says yes or no. -/
theorem light_any (A : Option Addr) (n c : Nat) (l : List HdrV) (w : World) (hn : n ≤ 100000000) (hr : Hr w A n l) (hz : Szs l) :
    Calls Tryd.prog 7 #[.slice A n c] w (LightPost n w) := by
  have HR := Lib.hid hr
  have HZ := Lib.hid hz
  clear hr hz
  go_enter Tryd.func7, Tryd.ntmps7
  go_wp2
  go_loopw [3, 4] (fun s i wr => ∃ k : Nat, k ≤ n ∧ k ≤ 61 ∧ i = .int .i64 (k : Int) ∧ (∃ t : Nat, t ≤ k * 60000 ∧ s = .int .i64 (t : Int)) ∧ Hid (∃ q, wr = w.drewN q)) (fun _ i _ => n - (intOf i).toNat)
  case atStart => exact ⟨0, Nat.zero_le _, by omega, rfl, ⟨0, by omega, rfl⟩, Lib.hid ⟨0, rfl⟩⟩
  case round =>
    obtain ⟨k, hk, hk61, rfl, ⟨t, ht, rfl⟩, hh⟩ := hrel
    obtain ⟨q, hq⟩ := hh.out
    subst hq
    by_cases hlt : k < n
    · by_cases h60 : k ≤ 60
      · obtain ⟨ad, rfl, a0, a1, a2⟩ := HR.out.at_ hlt
        obtain ⟨s1, s2⟩ := HZ.out.at_ k
        obtain ⟨x, hx⟩ : ∃ x, l.getD k ⟨⟨#[]⟩, ⟨#[]⟩, false⟩ = x := ⟨_, rfl⟩
        rw [hx] at a0 a1 a2 s1 s2
        obtain ⟨xn, xv, xb⟩ := x
        simp only at a0 a1 a2 s1 s2
        clear hx a2
        have i0 : (0 : Int) ≤ (k : Int) := by omega
        have i1 : (k : Int) < (n : Int) := by omega
        have t0 : (t : Int) ≤ 4000000 := by omega
        go_wp2
        go_quiet (fail)
        go_wp2
        exact ⟨⟨k + 1, by omega, by omega, by go_num, ⟨t + min xn.size 30000 + min xv.size 30000, by omega, congrArg (Value.int .i64) (by omega)⟩, Lib.hid ⟨_, rfl⟩⟩, by simp [intOf]; omega⟩
      · have h60' : 60 < k := by omega
        by_cases hn60 : n ≤ 60
        · omega
        · have hn6 : 60 < n := by omega
          go_wp2
          go_ret
          exact ⟨false, rfl, (fun h => Bool.noConfusion h), _, rfl⟩
    · obtain rfl : k = n := by omega
      by_cases hn60 : k ≤ 60
      · by_cases h3 : t ≤ 30000
        · have h3d : decide ((t : Int) ≤ 30000) = true := decide_eq_true (by omega)
          go_wp2
          go_ret
          exact ⟨true, rfl, fun _ => hn60, _, rfl⟩
        · have h3d : decide ((t : Int) ≤ 30000) = false := decide_eq_false (by omega)
          go_wp2
          go_ret
          exact ⟨false, rfl, (fun h => Bool.noConfusion h), _, rfl⟩
      · have hn6 : 60 < k := by omega
        go_wp2
        go_ret
        exact ⟨false, rfl, (fun h => Bool.noConfusion h), _, rfl⟩
/-- nil, or ErrHead. -/
def EV (e1 : Addr) (ok : Bool) : Value := bif ok then .nilIface else errH e1
theorem run_ev_eq (e1 : Addr) (ok : Bool) (W : World) : (binOp .eql 31 (EV e1 ok) .nilIface).run Tryd.prog W = .ok (.bool ok) W := by
  cases ok
  · kernel_rfl
  · kernel_rfl
theorem run_ev_ne (e1 : Addr) (ok : Bool) (W : World) : (binOp .neq 31 (EV e1 ok) .nilIface).run Tryd.prog W = .ok (.bool (!ok)) W := by
  cases ok
  · kernel_rfl
  · kernel_rfl
theorem run_eg (e1 : Addr) (ok : Bool) (b : BinOp) (x : Operand) (W : World) : (eqGuard b 31 x (.const .nilIface) (EV e1 ok) .nilIface).run Tryd.prog W = .ok () W := by
  cases ok <;> cases b <;> first | rfl | simp [eqGuard, EV, errH, go_sem] | kernel_rfl
theorem open_ok (A : Option Addr) (n c : Nat) (l : List HdrV) (w : World) {e1 e2 e3 : Addr} (he : EnvH w e1 e2 e3) (hn : n ≤ 100000) (hnc : n ≤ c) (hr : Hr w A n l) (hz : Szs l) :
    Calls Tryd.prog 9 #[.slice A n c] w fun e w' => ∃ a1 a2 a3 a4 A5 n5 c5, e = .returned (.tuple #[.agg #[.string a1, .string a2, .string a3, .string a4, .slice A5 n5 c5], EV e1 (okB rules4 req0 l)]) ∧ Hid (Below w.heap.size w w') := by
  refine (open_any A n c l w he hn hnc hr hz).mono ?_
  rintro e w' ⟨hb, h⟩
  unfold okB
  rcases h with ⟨h, rfl⟩ | ⟨rest, s, h, A5, c5, rfl, _⟩
  · rw [h]; exact ⟨_, _, _, _, _, _, _, rfl, Lib.hid hb⟩
  · rw [h]; exact ⟨_, _, _, _, _, _, _, rfl, Lib.hid hb⟩
theorem ans_ok (A : Option Addr) (n c : Nat) (l : List HdrV) (w : World) {e1 e2 e3 : Addr} (he : EnvH w e1 e2 e3) (hn : n ≤ 100000) (hnc : n ≤ c) (hr : Hr w A n l) (hz : Szs l) :
    Calls Tryd.prog 10 #[.slice A n c] w fun e w' => ∃ k A5 n5 c5, e = .returned (.tuple #[.agg #[.int .i64 k, .slice A5 n5 c5], EV e1 (okB rules1 0 l)]) ∧ Hid (Below w.heap.size w w') := by
  refine (openAnswer_any A n c l w he hn hnc hr hz).mono ?_
  rintro e w' ⟨hb, h⟩
  unfold okB
  rcases h with ⟨h, rfl⟩ | ⟨rest, s, h, A5, c5, rfl, _⟩
  · rw [h]; exact ⟨_, _, _, _, rfl, Lib.hid hb⟩
  · rw [h]; exact ⟨_, _, _, _, rfl, Lib.hid hb⟩
theorem trails_ok (A : Option Addr) (n c : Nat) (l : List HdrV) (w : World) {e1 e2 e3 : Addr} (he : EnvH w e1 e2 e3) (hn : n ≤ 1000000000) (hr : Hr w A n l) (hz : Szs l) :
    Calls Tryd.prog 11 #[.slice A n c] w fun e w' => e = .returned (EV e1 (l.all plainB)) ∧ Hid (Below w.heap.size w w') :=
  (trailers_any A n c l w he hn hr hz).mono fun _ _ h => ⟨h.1, Lib.hid h.2⟩
end Go.Proofs.YtkikcinpgbgbdaaDoor
