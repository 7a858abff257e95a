/-
  Contracts: the document's texts by hundreds (parleyref16.nibble, Unpercent, Percent); GrpcTexts' walk.
-/
import Derived.Test.YtlggoiablbmmlaaDoorPct
import Derived.Test.YtlggoiablbmmlaaDoorFst
import Derived.IntWalk
namespace Go.Own
open Go.RowKit
section
variable {P : Program} (w : World)
theorem step_app_bytes {ops : Array Oper} {o : Oper} {a : Act} {K : Act → World → Prop} {Q : Exit → Act → World → Prop} {E : Prop} {t e : TypeId} (hP : ByteP P t e) (hgd : o.guard = none) (s x : Operand)
    (ho : o.op = .call { callee := .builtin .append, args := #[s, x], argTypes := #[t, t] })
    (base : Nat) (v : Value) (n : Nat) (xs : List UInt8) (hs : a.eval s = v) (hown : Ow w base e v n xs)
    (B : Nat) (A : Option Addr) (m c : Nat) (l : List UInt8) (hx : a.eval x = .slice A m c) (hr : Rd w B A m l) (hb : n + m ≤ 140737488355328) (hbase : base ≤ w.heap.size)
    (h : ∀ A' cap' w', Ow w' base e (.slice A' (n + m) cap') (n + m) (xs ++ l) → w.grownBy w' v.ownBlock → K (a.put o.dst (.slice A' (n + m) cap')) w') :
    if Region.wanted o (yielded ops a.tmps) = true then Oper.wp P o a w K Q else E := by
  have hw : Region.wanted o (yielded ops a.tmps) = true := by simp [Region.wanted, hgd]
  rw [if_pos hw]
  obtain ⟨v', w', hrun, r1, r2, r3⟩ := run_app_any (P := P) w hP o.type base v n xs hown B A m c l hr hb hbase
  obtain ⟨A', cap', rfl, _⟩ := r1.form
  unfold Oper.wp execOp
  simp only [ho, resolve, invoke, builtin, Sem.run_bind, Sem.run_pure, Result.andThen_ok, List.map_toArray, List.map_cons, List.map_nil, hs, hx, hrun]
  exact h A' cap' w' r1 r2
end
theorem idx_str_u8 {P : Program} {t : TypeId} (ht : P.underlying t = some .string) (s : ByteArray) (k : Nat) (i : Int) (hi : i = (k : Int)) (hk : k < s.size) (W : World) :
    (Instr.index t (.string s) (.int .u8 i)).run P W = .ok (.int .u8 ((s.data.toList.getD k 0).toNat : Int)) W := by
  subst hi
  have e : s.data.toList.getD k 0 = s[k] := by
    rw [List.getD, List.getElem?_eq_getElem (by simpa using hk)]
    rfl
  simp [Instr.index, run_underlying ht, asIntOf, hk, e]
  rfl
theorem idx_hex {P : Program} {t : TypeId} (ht : P.underlying t = some .string) (n : Nat) (hn : n < 16) (x : Int) (hx : x = (n : Int)) (W : World) :
    (Instr.index t (.string ⟨#[48, 49, 50, 51, 52, 53, 54, 55, 56, 57, 65, 66, 67, 68, 69, 70]⟩) (.int .u8 x)).run P W = .ok (.int .u8 ((Grpc.gr n).toNat : Int)) W := by
  subst hx
  have key : ∀ n < 16, (ByteArray.mk #[48, 49, 50, 51, 52, 53, 54, 55, 56, 57, 65, 66, 67, 68, 69, 70]).data.toList.getD n 0 = Grpc.gr n := by decide +kernel
  rw [← key n hn]
  exact idx_str_u8 ht _ n _ rfl (by rw [show (ByteArray.mk #[48, 49, 50, 51, 52, 53, 54, 55, 56, 57, 65, 66, 67, 68, 69, 70]).size = 16 from rfl]; omega) W
theorem app_below {w wr w2 : World} {H n cap : Nat} {e : TypeId} {A : Option Addr} {l : List UInt8} {o : Obj} (hb : Below H w wr) (ho : Ow wr H e (.slice A n cap) n l) (hH : H ≤ wr.heap.size) (hg : (wr.alloc o).grownBy w2 (Value.slice A n cap).ownBlock) : Below H w w2 :=
  (hb.alloc hH o).grown hg (by simp; omega) (fun _ hk => (ho.lt hk).2)
theorem Ow.nil (w : World) (base : Nat) (e : TypeId) : Ow w base e (.slice none 0 0) 0 [] := ⟨rfl, .inl ⟨rfl, rfl⟩⟩
end Go.Own
namespace Go.Proofs.YtlggoiablbmmlaaDoor
open Go.RowKit Go.Own Go.Own.Grpc

set_option maxHeartbeats 1000000 in
theorem nibble_yes (c v : Nat) (w : World) (hv : Hid (nib c = v)) (h : v < 16) : Calls Tryd.prog 28 #[.int .u8 (c : Int)] w fun e w' => e = .returned (.int .i64 (v : Int)) ∧ w = w' := by
  have hc := hv.out
  unfold nib at hc
  by_cases h1 : 48 ≤ c ∧ c ≤ 57
  · rw [if_pos h1] at hc
    obtain ⟨a1, a2⟩ := h1
    have HC := Lib.hid hc
    clear hc
    go_enter Tryd.func28, Tryd.ntmps28
    go_wp2
    go_ret
    exact ⟨congrArg (fun n => Ending.returned (Value.int .i64 n)) (by have := HC.out; omega), rfl⟩
  rw [if_neg h1] at hc
  by_cases h2 : 97 ≤ c ∧ c ≤ 102
  · rw [if_pos h2] at hc
    obtain ⟨a1, a2⟩ := h2
    have HC := Lib.hid hc
    clear hc h1
    go_enter Tryd.func28, Tryd.ntmps28
    go_wp2
    go_ret
    exact ⟨congrArg (fun n => Ending.returned (Value.int .i64 n)) (by have := HC.out; omega), rfl⟩
  rw [if_neg h2] at hc
  by_cases h3 : 65 ≤ c ∧ c ≤ 70
  · rw [if_pos h3] at hc
    obtain ⟨a1, a2⟩ := h3
    have HC := Lib.hid hc
    clear hc h1 h2
    go_enter Tryd.func28, Tryd.ntmps28
    go_wp2
    go_ret
    exact ⟨congrArg (fun n => Ending.returned (Value.int .i64 n)) (by have := HC.out; omega), rfl⟩
  rw [if_neg h3] at hc
  omega

set_option maxHeartbeats 2000000 in
theorem nibble_no (c : Nat) (w : World) (hv : Hid (¬ nib c < 16)) : Calls Tryd.prog 28 #[.int .u8 (c : Int)] w fun e w' => e = .returned (.int .i64 (-1)) ∧ w = w' := by
  have hc := hv.out
  unfold nib at hc
  have h1 : c < 48 ∨ (57 < c ∧ c < 65) ∨ (70 < c ∧ c < 97) ∨ 102 < c := by
    by_cases h1 : 48 ≤ c ∧ c ≤ 57
    · rw [if_pos h1] at hc; omega
    rw [if_neg h1] at hc
    by_cases h2 : 97 ≤ c ∧ c ≤ 102
    · rw [if_pos h2] at hc; omega
    rw [if_neg h2] at hc
    by_cases h3 : 65 ≤ c ∧ c ≤ 70
    · rw [if_pos h3] at hc; omega
    omega
  clear hc
  rcases h1 with h | ⟨h, h'⟩ | ⟨h, h'⟩ | h
  all_goals
    go_enter Tryd.func28, Tryd.ntmps28
    go_wp2
    go_ret
    exact ⟨rfl, rfl⟩

set_option maxHeartbeats 4000000 in
set_option maxRecDepth 100000 in
theorem refUnpercent_any (t : ByteArray) (w : World) (hsz : t.size ≤ 1000000000) :
    Calls Tryd.prog 20 #[.string t] w fun e w' => e = .returned (.string ⟨(unp t.data.toList).toArray⟩) ∧ Below w.heap.size w w' := by
  go_enter Tryd.func20, Tryd.ntmps20
  go_wp2
  go_loopw [3, 4] (fun ov i wr => ∃ (k : Nat) (out : List UInt8) (n : Nat) (A : Option Addr) (cap : Nat), k ≤ t.size ∧ i = .int .i64 k ∧ ov = .slice A n cap ∧ n ≤ k ∧ Hid (Ow wr w.heap.size 5 (.slice A n cap) n out) ∧ Hid (Below w.heap.size w wr) ∧ Hid (out ++ unp (t.data.toList.drop k) = unp t.data.toList)) (fun _ i _ => t.size - (intOf i).toNat)
  case atStart => exact ⟨0, [], 0, none, 0, by omega, rfl, rfl, by omega, Lib.hid (Ow.nil _ _ _), Lib.hid (Below.refl _ _), Lib.hid (by simp)⟩
  case round =>
    obtain ⟨k, out, n, A, cap, hk, rfl, rfl, hol, HI, HB, HU⟩ := hrel
    by_cases hlt : k < t.size
    · have hll : t.data.toList.length = t.size := rfl
      have hi0 := idx_str (P := Tryd.prog) Tryd.underlying9 t k (k : Int) rfl hlt
      obtain ⟨c, hc⟩ : ∃ c, t.data.toList.getD k 0 = c := ⟨_, rfl⟩
      rw [hc] at hi0
      have HST := Lib.hid (unp_step t.data.toList k c hc (by omega))
      have hBw : w.heap.size ≤ wr.heap.size := HB.out.size
      obtain ⟨x, hx⟩ : ∃ x, c.toNat = x := ⟨_, rfl⟩
      have hx256 : x < 256 := by rw [← hx]; exact c.toNat_lt
      rw [hx] at hi0
      have HX := Lib.hid hx
      have hlen2 : Hid ((t.data.toList.drop (k + 1)).length = t.size - (k + 1)) := Lib.hid (by rw [List.length_drop, hll])
      clear hc hx hll
      have one : ∀ (K : Prop), (out ++ [c] ++ unp (t.data.toList.drop (k + 1)) = unp t.data.toList → K) → out ++ [c] ++ unp (t.data.toList.drop (k + 1)) = unp t.data.toList → K := fun _ h => h
      clear one
      by_cases hp : c = 37
      · have t0 : ((x : Int) == 37) = true := by rw [← HX.out, hp]; rfl
        by_cases h2 : k + 2 < t.size
        · have hi1 := idx_str (P := Tryd.prog) Tryd.underlying9 t (k + 1) ((k : Int) + 1) (by omega) (by omega)
          have hi2 := idx_str (P := Tryd.prog) Tryd.underlying9 t (k + 1 + 1) ((k : Int) + 2) (by omega) (by omega)
          obtain ⟨a, ha⟩ : ∃ a, t.data.toList.getD (k + 1) 0 = a := ⟨_, rfl⟩
          obtain ⟨b, hb⟩ : ∃ b, t.data.toList.getD (k + 1 + 1) 0 = b := ⟨_, rfl⟩
          rw [ha] at hi1
          rw [hb] at hi2
          have HS2 := Lib.hid (unp_step t.data.toList (k + 1) a ha (show _ < t.size by omega))
          have HS3 := Lib.hid (unp_step t.data.toList (k + 1 + 1) b hb (show _ < t.size by omega))
          obtain ⟨y, hy⟩ : ∃ y, a.toNat = y := ⟨_, rfl⟩
          obtain ⟨z, hz⟩ : ∃ z, b.toNat = z := ⟨_, rfl⟩
          rw [hy] at hi1
          rw [hz] at hi2
          have HY := Lib.hid hy
          have HZ := Lib.hid hz
          clear ha hb hy hz
          by_cases hh : isH a = true ∧ isH b = true
          · have HU2 : Hid (out ++ [UInt8.ofNat (16 * nib a.toNat + nib b.toNat)] ++ unp (t.data.toList.drop (k + 3)) = unp t.data.toList) := Lib.hid (by
              rw [← HU.out, HST.out, HS2.out, HS3.out, hp, unp_hex _ _ _ hh.1 hh.2]
              simp)
            have g1 := of_decide_eq_true hh.1
            have g2 := of_decide_eq_true hh.2
            obtain ⟨va, hva⟩ : ∃ va, nib a.toNat = va := ⟨_, rfl⟩
            obtain ⟨vb, hvb⟩ : ∃ vb, nib b.toNat = vb := ⟨_, rfl⟩
            rw [hva, hvb] at HU2
            rw [hva] at g1
            rw [hvb] at g2
            rw [HY.out] at hva
            rw [HZ.out] at hvb
            have HVA := Lib.hid hva
            have HVB := Lib.hid hvb
            clear hva hvb hh hp
            have hbv2 : Hid ((va : Int) * 16 + (vb : Int) = ((UInt8.ofNat (16 * va + vb)).toNat : Int)) := Lib.hid (by rw [byte_mod]; omega)
            go_wp2_with ((first | (with_reducible refine (nibble_yes y va _ HVA g1).mono ?_) | (with_reducible refine (nibble_yes z vb _ HVB g2).mono ?_)); rintro e w' ⟨rfl, rfl⟩)
            have q1 : IntKind.i64.wrap ((va : Int) * 16) = (va : Int) * 16 := IntWalk.i64_in _ (by omega)
            have q2 : IntKind.i64.wrap ((va : Int) * 16 + (vb : Int)) = (va : Int) * 16 + (vb : Int) := IntWalk.i64_in _ (by omega)
            have q3 : IntKind.u8.wrap ((va : Int) * 16 + (vb : Int)) = (va : Int) * 16 + (vb : Int) := u8_keep _ (by omega) (by omega)
            have q4 : IntKind.i64.wrap ((k : Int) + 1) = (k : Int) + 1 := IntWalk.i64_in _ (by omega)
            have q5 : IntKind.i64.wrap ((k : Int) + 2) = (k : Int) + 2 := IntWalk.i64_in _ (by omega)
            go_region_held3 (fun _ => True) (trivial) (first
              | (refine step_app_bytes _ byteP (by rfl) (.tmp 38) (.tmp 52) (by rfl) w.heap.size (.slice A n cap) n out (by rfl) (HI.out.alloc _) (wr.heap.size + 1) (some ⟨wr.heap.size, 0, none⟩) 1 1 [UInt8.ofNat (16 * va + vb)] (by rfl) (Rd.one wr _ _ _ hbv2.out) (by omega) (by simp; omega) ?_; intro A2 cap2 w2 ho2 hg2)
              | (go_simp; go_at_call 28; (first | (with_reducible refine (nibble_yes y va _ HVA g1).mono ?_) | (with_reducible refine (nibble_yes z vb _ HVB g2).mono ?_)); rintro e w' ⟨rfl, rfl⟩)
              | fail)
            all_goals
              have HI2 := Lib.hid ho2
              have HB2 := Lib.hid (app_below HB.out HI.out hBw (grown_of_drew hg2))
              clear ho2 hg2 q1 q2 q3 q4 q5
              go_wp2
              exact ⟨⟨k + 3, _, n + 1, A2, cap2, by omega, by go_num, rfl, by omega, HI2, HB2, HU2⟩, by simp [intOf]; omega⟩
          · have HU2 : Hid (out ++ [c] ++ unp (t.data.toList.drop (k + 1)) = unp t.data.toList) := Lib.hid (by
              rw [← HU.out, HST.out, HS2.out, HS3.out, hp, unp_not _ _ _ hh]
              simp)
            by_cases ha : nib y < 16
            · obtain ⟨va, hva⟩ : ∃ va, nib y = va := ⟨_, rfl⟩
              rw [hva] at ha
              have HVA := Lib.hid hva
              have HNB : Hid (¬ nib z < 16) := Lib.hid (fun h => hh ⟨decide_eq_true (by rw [HY.out, HVA.out]; exact ha), decide_eq_true (by rw [HZ.out]; exact h)⟩)
              clear hva hh hp
              go_wp2_with (first
                | ((with_reducible refine (nibble_yes y va _ HVA ha).mono ?_); rintro e w' ⟨rfl, rfl⟩)
                | ((with_reducible refine (nibble_no z _ HNB).mono ?_); rintro e w' ⟨rfl, rfl⟩)
                | (at_builtin
                   refine wpList_app_any _ byteP rfl (.tmp 56) (.tmp 60) rfl w.heap.size (.slice A n cap) n out rfl (HI.out.alloc _) (wr.heap.size + 1) (some ⟨wr.heap.size, 0, none⟩) 1 1 [c] rfl (Rd.one wr _ c _ (by rw [HX.out])) (by omega) (by simp; omega) ?_
                   intro A2 cap2 w2 ho2 hg2 hw2 hc2 hc3
                   have HI2 := Lib.hid ho2
                   have HB2 := Lib.hid (app_below HB.out HI.out hBw hg2)
                   clear ho2 hg2 hw2 hc2 hc3))
              exact ⟨⟨k + 1, out ++ [c], n + 1, A2, cap2, by omega, by go_num, rfl, by omega, HI2, HB2, HU2⟩, by simp [intOf]; omega⟩
            · have HNA : Hid (¬ nib y < 16) := Lib.hid ha
              clear ha hh hp
              go_wp2_with (first
                | ((with_reducible refine (nibble_no y _ HNA).mono ?_); rintro e w' ⟨rfl, rfl⟩)
                | (at_builtin
                   refine wpList_app_any _ byteP rfl (.tmp 56) (.tmp 60) rfl w.heap.size (.slice A n cap) n out rfl (HI.out.alloc _) (wr.heap.size + 1) (some ⟨wr.heap.size, 0, none⟩) 1 1 [c] rfl (Rd.one wr _ c _ (by rw [HX.out])) (by omega) (by simp; omega) ?_
                   intro A2 cap2 w2 ho2 hg2 hw2 hc2 hc3
                   have HI2 := Lib.hid ho2
                   have HB2 := Lib.hid (app_below HB.out HI.out hBw hg2)
                   clear ho2 hg2 hw2 hc2 hc3))
              exact ⟨⟨k + 1, out ++ [c], n + 1, A2, cap2, by omega, by go_num, rfl, by omega, HI2, HB2, HU2⟩, by simp [intOf]; omega⟩
        · have HU2 : Hid (out ++ [c] ++ unp (t.data.toList.drop (k + 1)) = unp t.data.toList) := Lib.hid (by
            rw [← HU.out, HST.out, unp_short _ _ (by rw [hlen2.out]; omega)]
            simp)
          clear hp
          go_wp2_with (
                   at_builtin
                   refine wpList_app_any _ byteP rfl (.tmp 56) (.tmp 60) rfl w.heap.size (.slice A n cap) n out rfl (HI.out.alloc _) (wr.heap.size + 1) (some ⟨wr.heap.size, 0, none⟩) 1 1 [c] rfl (Rd.one wr _ c _ (by rw [HX.out])) (by omega) (by simp; omega) ?_
                   intro A2 cap2 w2 ho2 hg2 hw2 hc2 hc3
                   have HI2 := Lib.hid ho2
                   have HB2 := Lib.hid (app_below HB.out HI.out hBw hg2)
                   clear ho2 hg2 hw2 hc2 hc3)
          exact ⟨⟨k + 1, out ++ [c], n + 1, A2, cap2, by omega, by go_num, rfl, by omega, HI2, HB2, HU2⟩, by simp [intOf]; omega⟩
      · have HU2 : Hid (out ++ [c] ++ unp (t.data.toList.drop (k + 1)) = unp t.data.toList) := Lib.hid (by
          rw [← HU.out, HST.out, unp_cons _ _ hp]
          simp)
        have t0 : ((x : Int) == 37) = false := by
          have : x ≠ 37 := by
            intro e
            apply hp
            apply UInt8.toNat_inj.1
            rw [HX.out, e]
            rfl
          simp; omega
        clear hp
        go_wp2_with (
                   at_builtin
                   refine wpList_app_any _ byteP rfl (.tmp 56) (.tmp 60) rfl w.heap.size (.slice A n cap) n out rfl (HI.out.alloc _) (wr.heap.size + 1) (some ⟨wr.heap.size, 0, none⟩) 1 1 [c] rfl (Rd.one wr _ c _ (by rw [HX.out])) (by omega) (by simp; omega) ?_
                   intro A2 cap2 w2 ho2 hg2 hw2 hc2 hc3
                   have HI2 := Lib.hid ho2
                   have HB2 := Lib.hid (app_below HB.out HI.out hBw hg2)
                   clear ho2 hg2 hw2 hc2 hc3)
        exact ⟨⟨k + 1, out ++ [c], n + 1, A2, cap2, by omega, by go_num, rfl, by omega, HI2, HB2, HU2⟩, by simp [intOf]; omega⟩
    · have hk2 : k = t.size := by omega
      have HF : Hid (out = unp t.data.toList) := Lib.hid (by
        rw [← HU.out, hk2, List.drop_of_length_le (Nat.le_refl t.size)]
        simp [unp])
      have hcs := run_str (P := Tryd.prog) (c := cap) 25 9 5 Tryd.underlying25 Tryd.underlying5 Tryd.underlying9 HI.out.rd
      clear hk2
      go_wp2
      go_ret
      exact ⟨congrArg (fun l : List UInt8 => Ending.returned (Value.string ⟨l.toArray⟩)) HF.out, HB.out⟩

set_option maxHeartbeats 4000000 in
set_option maxRecDepth 100000 in
theorem refPercent_any (t : ByteArray) (w : World) (hsz : t.size ≤ 1000000000) :
    Calls Tryd.prog 18 #[.string t] w fun e w' => e = .returned (.string ⟨(pct t.data.toList).toArray⟩) ∧ Below w.heap.size w w' := by
  go_enter Tryd.func18, Tryd.ntmps18
  go_wp2
  go_loopw [4, 5] (fun ov i wr => ∃ (k n : Nat) (A : Option Addr) (cap : Nat), k ≤ t.size ∧ i = .int .i64 k ∧ ov = .slice A n cap ∧ n ≤ 3 * k ∧ Hid (Ow wr w.heap.size 5 (.slice A n cap) n (pct (t.data.toList.take k))) ∧ Hid (Below w.heap.size w wr)) (fun _ i _ => t.size - (intOf i).toNat)
  case atStart => exact ⟨0, 0, none, 0, by omega, rfl, rfl, by omega, Lib.hid (Ow.nil _ _ _), Lib.hid (Below.refl _ _)⟩
  case round =>
    obtain ⟨k, n, A, cap, hk, rfl, rfl, hol, HI, HB⟩ := hrel
    by_cases hlt : k < t.size
    · have hi0 := idx_str (P := Tryd.prog) Tryd.underlying9 t k (k : Int) rfl hlt
      obtain ⟨c, hc⟩ : ∃ c, t.data.toList.getD k 0 = c := ⟨_, rfl⟩
      rw [hc] at hi0
      have HN : Hid (pct (t.data.toList.take (k + 1)) = pct (t.data.toList.take k) ++ pcB c) := Lib.hid (by
        rw [List.take_succ_eq_append_getElem (show k < t.data.toList.length from hlt), pct_append]
        have : t.data.toList.getD k 0 = t.data.toList[k]'(show k < t.data.toList.length from hlt) := by
          rw [List.getD, List.getElem?_eq_getElem (show k < t.data.toList.length from hlt)]
          rfl
        rw [← this, hc]
        simp only [pct, List.append_nil])
      have hBw : w.heap.size ≤ wr.heap.size := HB.out.size
      obtain ⟨x, hx⟩ : ∃ x, c.toNat = x := ⟨_, rfl⟩
      have hx256 : x < 256 := by rw [← hx]; exact c.toNat_lt
      rw [hx] at hi0
      have HX := Lib.hid hx
      generalize pct (t.data.toList.take k) = out at *
      clear hc hx
      by_cases hp : 32 ≤ x ∧ x ≤ 126 ∧ x ≠ 37
      · have HPB : Hid (pcB c = [c]) := Lib.hid (by unfold pcB plainB; rw [HX.out, if_pos (by simpa using hp)])
        obtain ⟨p1, p2, p3⟩ := hp
        have t0 : ((x : Int) != 37) = true := by simp; omega
        clear p3
        go_wp2_with (
                   at_builtin
                   refine wpList_app_any _ byteP rfl (.tmp 26) (.tmp 28) rfl w.heap.size (.slice A n cap) n out rfl (HI.out.alloc _) (wr.heap.size + 1) (some ⟨wr.heap.size, 0, none⟩) 1 1 [c] rfl (Rd.one wr _ c _ (by rw [HX.out])) (by omega) (by simp; omega) ?_
                   intro A2 cap2 w2 ho2 hg2 hw2 hc2 hc3
                   have HI2 := Lib.hid ho2
                   have HB2 := Lib.hid (app_below HB.out HI.out hBw hg2)
                   clear ho2 hg2 hw2 hc2 hc3)
        exact ⟨⟨k + 1, n + 1, A2, cap2, by omega, by go_num, rfl, by omega, Lib.hid (by rw [HN.out, HPB.out]; exact HI2.out), HB2⟩, by simp [intOf]; omega⟩
      · have HPB : Hid (pcB c = [37, gr (x / 16), gr (x % 16)]) := Lib.hid (by unfold pcB plainB; rw [HX.out, if_neg (by simpa using hp)])
        have hcs : x < 32 ∨ 126 < x ∨ (32 ≤ x ∧ x ≤ 126 ∧ ((x : Int) != 37) = false) := by
          by_cases h1 : x < 32
          · exact .inl h1
          · by_cases h2 : 126 < x
            · exact .inr (.inl h2)
            · refine .inr (.inr ⟨by omega, by omega, ?_⟩)
              have : x = 37 := by omega
              subst this
              rfl
        have r1 := idx_hex (P := Tryd.prog) Tryd.underlying9 (x / 16) (by omega) ((x : Int) / 16) (by omega)
        have r2 := idx_hex (P := Tryd.prog) Tryd.underlying9 (x % 16) (by omega) ((x : Int) % 16) (by omega)
        clear hp
        rcases hcs with hd | hd | ⟨hd1, hd2, hd3⟩
        all_goals
          go_wp2_with fail
          have q3 := u8_and_15 x hx256
          go_region_held3 (fun _ => True) (trivial) (first
            | (refine step_app_bytes _ byteP (by rfl) (.tmp 30) (.tmp 39) (by rfl) w.heap.size (.slice A n cap) n out (by rfl) (HI.out.alloc _) (wr.heap.size + 1) (some ⟨wr.heap.size, 0, none⟩) 3 3 [37, gr (x / 16), gr (x % 16)] (by rfl) (Rd.lits wr _ _ _ (by rfl)) (by omega) (by simp; omega) ?_; intro A2 cap2 w2 ho2 hg2)
            | fail)
          all_goals
            have HI2 := Lib.hid ho2
            have HB2 := Lib.hid (app_below HB.out HI.out hBw (grown_of_drew hg2))
            clear ho2 hg2 q3 r1 r2
            go_wp2
            exact ⟨⟨k + 1, n + 3, A2, cap2, by omega, by go_num, rfl, by omega, Lib.hid (by rw [HN.out, HPB.out]; exact HI2.out), HB2⟩, by simp [intOf]; omega⟩
    · have hk2 : k = t.size := by omega
      have HF : Hid (pct (t.data.toList.take k) = pct t.data.toList) := Lib.hid (by rw [hk2, List.take_of_length_le (Nat.le_refl t.size)])
      have hcs := run_str (P := Tryd.prog) (c := cap) 25 9 5 Tryd.underlying25 Tryd.underlying5 Tryd.underlying9 HI.out.rd
      clear hk2
      go_wp2
      go_ret
      exact ⟨congrArg (fun l : List UInt8 => Ending.returned (Value.string ⟨l.toArray⟩)) HF.out, HB.out⟩
end Go.Proofs.YtlggoiablbmmlaaDoor
