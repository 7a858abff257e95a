/-
  Contract: jpb.Base64.
-/
import Derived.Test.YtoafmhbgbofgoaaGreatDoorNb
import Derived.Test.YtoafmhbgbofgoaaGreatDoorG0
import Derived.Deep.DeepCutAuto
import Derived.Deep.AppendLies
namespace Go.Own.B64
def fill (l : List UInt8) : List UInt8 := List.replicate ((3 - l.length % 3) % 3) 61
/-- With its filling. -/
def b64p (l : List UInt8) : List UInt8 := b64 l ++ fill l
end Go.Own.B64
namespace Go.Proofs.YtoafmhbgbofgoaaGreatDoor
open Go.RowKit Go.Own Go.Own.B64
theorem run_mk3 (W : World) : (Instr.makeSlice 53 (.int .i64 0) (.int .i64 3)).run Tryz.prog W = .ok (.slice (some ⟨W.heap.size, 0, none⟩) 0 3) (W.alloc (.cells #[.int .u8 0, .int .u8 0, .int .u8 0] 5)) := by kernel_rfl
theorem run_head {P : Program} {t e : TypeId} (hP : ByteP P t e) (A : Option Addr) (n c k : Nat) (hk : k ≤ n) (hc : n ≤ c) (W : World) :
    (Instr.slice t (.slice A n c) none (some (.int .i64 (k : Int))) none).run P W = .ok (.slice A k c) W := by
  obtain ⟨i, hi, hz, h1, h2⟩ := hP.info
  simp [Instr.slice, run_underlying hP.slice, Instr.sliceBounds, run_sliceBound, sizeOf, typeInfo, hi, h1, Result.andThen, show (k : Int) ≤ c by omega]
  intro _; cases A <;> simp [Addr.add]
section
variable {P : Program} {ops : Array Oper} {o : Oper} {a : Act} {K : Act → World → Prop} {Q : Exit → Act → World → Prop} {E : Prop}
theorem step_app_b {t e : TypeId} (w : World) (hP : ByteP P t e) (hgd : o.guard = none) (s x : Operand) (ho : o.op = .call { callee := .builtin .append, args := #[s, x], argTypes := #[t, t] })
    (base : Nat) (v : Value) (n : Nat) (xs : List UInt8) (hs : a.eval s = v) (hown : Ow w base e v n xs) (B : Nat) (A : Option Addr) (m c : Nat) (l : List UInt8) (hx : a.eval x = .slice A m c) (hr : Rd w B A m l) (hb : n + m ≤ 140737488355328) (hbase : base ≤ w.heap.size)
    (h : ∀ A' cap' w', Ow w' base e (.slice A' (n + m) cap') (n + m) (xs ++ l) → w.grownBy w' v.ownBlock → ((Value.slice A' (n + m) cap').ownBlock = v.ownBlock ∨ (Value.slice A' (n + m) cap').ownBlock = some w.heap.size) → K (a.put o.dst (.slice A' (n + m) cap')) w') :
    if Region.wanted o (yielded ops a.tmps) = true then Oper.wp P o a w K Q else E := by
  have hw : Region.wanted o (yielded ops a.tmps) = true := by simp [Region.wanted, hgd]
  rw [if_pos hw]
  obtain ⟨v', w', hrun, r1, r2, r3⟩ := run_app_any (P := P) w hP o.type base v n xs hown B A m c l hr hb hbase
  obtain ⟨A', cap', rfl, _, _, _⟩ := r1.form
  unfold Oper.wp execOp
  simp only [ho, resolve, invoke, builtin, Sem.run_bind, Sem.run_pure, Result.andThen_ok, List.map_toArray, List.map_cons, List.map_nil, hs, hx, hrun]
  exact h A' cap' w' r1 r2 r3
end
theorem ow_mk3 (W : World) : Ow (W.alloc (.cells #[.int .u8 0, .int .u8 0, .int .u8 0] 5)) W.heap.size 5 (.slice (some ⟨W.heap.size, 0, none⟩) 0 3) 0 [] :=
  ⟨rfl, .inr ⟨W.heap.size, 3, _, rfl, Nat.le_refl _, heap_alloc_new W _, by omega, by simp [maxLen], rfl, rfl⟩⟩
theorem rd_blk2 {W : World} {g : Nat} (hb : Blk W g 5 #[.int .u8 0, .int .u8 0]) : Rd W (g + 1) (some ⟨g, 0, none⟩) 2 [0, 0] := by
  refine ⟨rfl, fun _ => ⟨_, rfl, Nat.lt_succ_self _, fun j hj => ?_⟩⟩
  have h := hb.cell j
  rw [show (⟨g, 0, none⟩ : Addr).add j = ⟨g, j, none⟩ by cases j <;> simp [Addr.add], h]
  have : j = 0 ∨ j = 1 := by omega
  rcases this with rfl | rfl <;> rfl
theorem ow_mk3b (W : World) (o : Obj) : Ow ((W.alloc o).alloc (.cells #[.int .u8 0, .int .u8 0, .int .u8 0] 5)) W.heap.size 5 (.slice (some ⟨W.heap.size + 1, 0, none⟩) 0 3) 0 [] := by
  have h := (ow_mk3 (W.alloc o)).base (base' := W.heap.size) (by simp)
  rwa [show (W.alloc o).heap.size = W.heap.size + 1 by simp] at h
theorem rd_two (W : World) : Rd (W.alloc (.cells #[.int .u8 0, .int .u8 0] 5)) (W.heap.size + 1) (some ⟨W.heap.size, 0, none⟩) 2 [0, 0] := by
  refine ⟨rfl, fun _ => ⟨_, rfl, Nat.lt_succ_self _, fun j hj => ?_⟩⟩
  have h := (Blk.new W 5 #[.int .u8 0, .int .u8 0]).cell j
  rw [show (⟨W.heap.size, 0, none⟩ : Addr).add j = ⟨W.heap.size, j, none⟩ by cases j <;> simp [Addr.add], h]
  have : j = 0 ∨ j = 1 := by omega
  rcases this with rfl | rfl <;> rfl
/-- The first three, and two zeros, in new memory. -/
def Thr (wr : World) (k : Nat) (rest : List UInt8) (v : Value) (wx : World) : Prop := ∃ A cap, v = .slice A (k + 2) cap ∧ Ow wx wr.heap.size 5 v (k + 2) (rest.take k ++ [0, 0]) ∧ Below wr.heap.size wr wx
theorem map_at (r : List UInt8) (k : Nat) (h : (r.take k ++ [0, 0]).length = k + 2) (j : Nat) (hj : j < k + 2) : ((r.take k ++ [0, 0]).map bv)[j]? = some (.int .u8 (((r.take k).getD j 0).toNat : Int)) := by
  have hk : (r.take k).length = k := by simpa using h
  rw [List.getElem?_map]
  by_cases h1 : j < k
  · rw [List.getElem?_append_left (by rw [hk]; exact h1), List.getElem?_eq_getElem (by rw [hk]; exact h1)]
    simp [bv, List.getD, List.getElem?_eq_getElem (show j < (r.take k).length by rw [hk]; exact h1)]
  · have h2 : (r.take k).getD j 0 = 0 := by
      rw [List.getD, List.getElem?_eq_none (by rw [hk]; omega)]; rfl
    rw [h2, List.getElem?_append_right (by rw [hk]; omega), hk]
    have h3 : j - k = 0 ∨ j - k = 1 := by omega
    rcases h3 with h3 | h3 <;> rw [h3] <;> rfl
theorem or_lo (i a b : Nat) (h : b < 2 ^ i) : 2 ^ i * a ||| b = 2 ^ i * a + b := (Nat.two_pow_add_eq_or_of_lt h a).symm
theorem ofInt_u32 (a : Nat) (ha : a < 4294967296) : (BitVec.ofInt 32 (a : Int)).toNat = a := by
  rw [BitVec.ofInt_natCast, BitVec.toNat_ofNat]; exact Nat.mod_eq_of_lt (by omega)
theorem u32_or_nat (a b : Nat) (ha : a < 4294967296) (hb : b < 4294967296) : bits .or .u32 (a : Int) (b : Int) = ((a ||| b : Nat) : Int) := by
  have hx : a ||| b < 2 ^ 32 := Nat.or_lt_two_pow (by omega) (by omega)
  show IntKind.u32.wrap ((BitVec.ofInt 32 (a : Int) ||| BitVec.ofInt 32 (b : Int)).toNat : Int) = _
  rw [BitVec.toNat_or, ofInt_u32 a ha, ofInt_u32 b hb]
  show ((_ : Int) % 4294967296) = _
  omega
theorem bits3 (x0 x1 x2 : Nat) (h0 : x0 < 256) (h1 : x1 < 256) (h2 : x2 < 256) :
    bits .or .u32 (bits .or .u32 ((x0 : Int) * 65536) ((x1 : Int) * 256)) (x2 : Int) = ((x0 * 65536 + x1 * 256 + x2 : Nat) : Int) := by
  have e1 := or_lo 16 x0 (x1 * 256) (by omega)
  have e2 := or_lo 8 (x0 * 256 + x1) x2 (by omega)
  have l1 : x0 * 65536 ||| x1 * 256 < 2 ^ 30 := Nat.or_lt_two_pow (by omega) (by omega)
  rw [show (x0 : Int) * 65536 = ((x0 * 65536 : Nat) : Int) by omega, show (x1 : Int) * 256 = ((x1 * 256 : Nat) : Int) by omega, u32_or_nat _ _ (by omega) (by omega), u32_or_nat _ _ (by omega) (by omega),
    show x0 * 65536 = 2 ^ 16 * x0 by omega, e1, show 2 ^ 16 * x0 + x1 * 256 = 2 ^ 8 * (x0 * 256 + x1) by omega, e2]
def LTR : Value := .string ⟨ltrs.toArray⟩
theorem ltr_eq : (Value.string ⟨ltrs.toArray⟩) = Value.string ⟨#[65, 66, 67, 68, 69, 70, 71, 72, 73, 74, 75, 76, 77, 78, 79, 80, 81, 82, 83, 84, 85, 86, 87, 88, 89, 90, 97, 98, 99, 100, 101, 102, 103, 104, 105, 106, 107, 108, 109, 110, 111, 112, 113, 114, 115, 116, 117, 118, 119, 120, 121, 122, 48, 49, 50, 51, 52, 53, 54, 55, 56, 57, 43, 47]⟩ := rfl
theorem idx32 (q : Nat) (hq : q < 64) (W : World) : (Instr.index 9 (.string ⟨#[65, 66, 67, 68, 69, 70, 71, 72, 73, 74, 75, 76, 77, 78, 79, 80, 81, 82, 83, 84, 85, 86, 87, 88, 89, 90, 97, 98, 99, 100, 101, 102, 103, 104, 105, 106, 107, 108, 109, 110, 111, 112, 113, 114, 115, 116, 117, 118, 119, 120, 121, 122, 48, 49, 50, 51, 52, 53, 54, 55, 56, 57, 43, 47]⟩) (.int .u32 (q : Int))).run Tryz.prog W = .ok (.int .u8 ((lt q).toNat : Int)) W := by
  rw [← ltr_eq]
  have hl : q < (⟨ltrs.toArray⟩ : ByteArray).size := hq
  have e : lt q = (⟨ltrs.toArray⟩ : ByteArray)[q] := by
    have h2 : q < ltrs.length := hq
    unfold lt
    rw [List.getD, List.getElem?_eq_getElem h2]
    rfl
  rw [e]
  simp [Instr.index, run_underlying Tryz.underlying9, asIntOf, hl]
theorem u32_and63 (X : Nat) (hX : X < 4294967296) : bits .and .u32 (X : Int) 63 = ((X % 64 : Nat) : Int) := by
  show IntKind.u32.wrap ((BitVec.ofInt 32 (X : Int) &&& BitVec.ofInt 32 ((63 : Nat) : Int)).toNat : Int) = _
  rw [BitVec.toNat_and, ofInt_u32 X hX, ofInt_u32 63 (by omega), show (63 : Nat) = 2 ^ 6 - 1 from rfl, Nat.and_two_pow_sub_one_eq_mod]
  show ((_ : Int) % 4294967296) = _
  omega
/-- The four letters of up to three bytes. -/
def q4 (N k : Nat) : List UInt8 := four N k ++ List.replicate (3 - k) 61
theorem q4_len (N k : Nat) (hk : k ≤ 3) : (q4 N k).length = 4 := by
  unfold q4 four
  rw [List.length_append, List.length_take, List.length_replicate]
  simp
  omega
theorem q4_yes (N k j : Nat) (hj : j < 4) (hjk : j ≤ k) (x : UInt8) (hx : [lt (N / 262144 % 64), lt (N / 4096 % 64), lt (N / 64 % 64), lt (N % 64)][j]? = some x) : (q4 N k).take (j + 1) = (q4 N k).take j ++ [x] := by
  have h : (q4 N k)[j]? = some x := by
    unfold q4 four
    rw [List.getElem?_append_left (by rw [List.length_take]; simp; omega), List.getElem?_take, if_pos (by omega)]
    exact hx
  rw [List.take_add_one, h]
  rfl
theorem q4_no (N k j : Nat) (hj : j < 4) (hjk : k < j) : (q4 N k).take (j + 1) = (q4 N k).take j ++ [61] := by
  have h : (q4 N k)[j]? = some 61 := by
    unfold q4 four
    have hl : (([lt (N / 262144 % 64), lt (N / 4096 % 64), lt (N / 64 % 64), lt (N % 64)]).take (k + 1)).length = k + 1 := by rw [List.length_take]; simp; omega
    rw [List.getElem?_append_right (by rw [hl]; omega), hl, List.getElem?_replicate, if_pos (by omega)]
  rw [List.take_add_one, h]
  rfl
theorem b64p_step (l : List UInt8) (k : Nat) (hk : k = min l.length 3) (h0 : 0 < k) : b64p l = q4 (num3 (l.take k)) k ++ b64p (l.drop k) := by
  rcases l with _ | ⟨a, _ | ⟨b, _ | ⟨c, r⟩⟩⟩
  · simp at hk; omega
  · obtain rfl : k = 1 := by simpa using hk
    simp [b64p, b64, q4, fill]
  · obtain rfl : k = 2 := by simpa using hk
    simp [b64p, b64, q4, fill]
  · obtain rfl : k = 3 := by rw [hk]; simp
    show (four (num3 [a, b, c]) 3 ++ b64 r) ++ fill (a :: b :: c :: r) = (four (num3 [a, b, c]) 3 ++ []) ++ (b64 r ++ fill r)
    have e : fill (a :: b :: c :: r) = fill r := by
      unfold fill
      have : (a :: b :: c :: r).length % 3 = r.length % 3 := by simp only [List.length_cons]; omega
      rw [this]
    rw [e, List.append_nil, List.append_assoc]
def B64Post (l : List UInt8) (w : World) (e : Ending) (w' : World) : Prop := e = .returned (.string ⟨(b64p l).toArray⟩) ∧ Below w.heap.size w w'
def lenOf : Value → Nat
  | .slice _ n _ => n
  | _ => 0
set_option maxHeartbeats 4000000 in
set_option maxRecDepth 100000 in
theorem base64_any (A : Option Addr) (n c : Nat) (l : List UInt8) (w : World) (hr : Rd w w.heap.size A n l) (hnc : n ≤ c) (hn : n ≤ 1000000) :
    Calls Tryz.prog 53 #[.slice A n c] w (B64Post l w) := by
  have HR := Lib.hid hr
  have hmk := run_mk3
  clear hr
  go_enter Tryz.func53, Tryz.ntmps53
  go_wp2_with fail
  go_loopw [0, 3] (fun b o wr => ∃ (A' : Option Addr) (n' c' m : Nat) (rest done : List UInt8), b = .slice A' n' c' ∧ n' ≤ c' ∧ n' ≤ n ∧ Hid (Rd wr w.heap.size A' n' rest ∧ Below w.heap.size w wr ∧ Ow wr w.heap.size 5 o m done ∧ m + (n' + 2) / 3 * 4 + 4 ≤ 2000000 ∧ done ++ b64p rest = b64p l)) (fun b _ _ => lenOf b)
  case atStart => exact ⟨A, n, c, 0, l, [], rfl, hnc, Nat.le_refl _, Lib.hid ⟨HR.out, Below.refl _ _, ⟨rfl, .inl ⟨rfl, rfl⟩⟩, by omega, rfl⟩⟩
  case round =>
    obtain ⟨A', n', c', m, rest, done, rfl, hnc', hn', hh⟩ := hrel
    by_cases h0 : 0 < n'
    · go_upto_region 4 with fail
      obtain ⟨k, hk, hk3, hk0⟩ : ∃ k, k = min n' 3 ∧ k ≤ 3 ∧ 0 < k := ⟨_, rfl, by omega, by omega⟩
      have hmin : min (3 : Int) (n' : Int) = (k : Int) := by omega
      have hsl : ∀ W, (Instr.slice 53 (.slice A' n' c') none (some (.int .i64 (k : Int))) none).run Tryz.prog W = .ok (.slice A' k c') W := fun W => run_head Gp.byteP A' n' c' k (by omega) hnc' W
      have HRw := Lib.hid (hh.out.1.keep (w' := w) (fun p hp => (hh.out.2.1.cell hp).symm))
      have HRW := Lib.hid (fun (W : World) (hb : Below wr.heap.size wr W) => (hh.out.1.head (k := k) (by omega)).below (hb.mono (hh.out.2.1.size)))
      have hk1 : k ≤ 1000000 := by omega
      have HK := Lib.hid hk
      clear hk
      go_cut [4] (fun v wx => Hid (Thr wr k rest v wx))
      case first =>
        go_region_law (first
          | (refine step_app_b _ Gp.byteP rfl (.tmp 15) (.tmp 20) (by rfl) wr.heap.size (.slice (some ⟨wr.heap.size, 0, none⟩) 0 3) 0 [] (by rfl) (by exact ow_mk3 wr) w.heap.size A' k c' (rest.take k) (by rfl) (by exact HRW.out _ (((Below.refl _ _).alloc (Nat.le_refl _) _).drew)) (by omega) (by simp [World.drew]) ?_
             intro A1 cap1 w1 ho hg hv
             have HO1 := Lib.hid (show Ow w1 wr.heap.size 5 (.slice A1 k cap1) k (rest.take k) by simpa using ho)
             have HG1 := Lib.hid (show Below wr.heap.size wr w1 from (((Below.refl _ _).alloc (Nat.le_refl _) _).drew).grown hg (by simp [World.drew]) (fun r e => by cases e; exact Nat.le_refl _))
             have tokA : True := trivial
             clear ho hg hv)
          | (refine step_app_b _ Gp.byteP rfl (.tmp 15) (.tmp 20) (by rfl) wr.heap.size (.slice (some ⟨wr.heap.size, 0, none⟩) 0 3) 0 [] (by rfl) (by exact (ow_mk3 wr).alloc _) w.heap.size A' k c' (rest.take k) (by rfl) (by exact HRW.out _ ((((Below.refl _ _).alloc (Nat.le_refl _) _).alloc (by simp) _).drew)) (by omega) (by simp [World.drew]; omega) ?_
             intro A1 cap1 w1 ho hg hv
             have HO1 := Lib.hid (show Ow w1 wr.heap.size 5 (.slice A1 k cap1) k (rest.take k) by simpa using ho)
             have HG1 := Lib.hid (show Below wr.heap.size wr w1 from ((((Below.refl _ _).alloc (Nat.le_refl _) _).alloc (by simp) _).drew).grown hg (by simp [World.drew]; omega) (fun r e => by cases e; exact Nat.le_refl _))
             have HBS := Lib.hid (show Rd w1 (wr.heap.size + 2) (some ⟨wr.heap.size + 1, 0, none⟩) 2 [0, 0] from rd_blk2 (by
               have h := (Blk.new (wr.alloc (.cells #[.int .u8 0, .int .u8 0, .int .u8 0] 5)) 5 #[.int .u8 0, .int .u8 0])
               rw [show (wr.alloc (.cells #[.int .u8 0, .int .u8 0, .int .u8 0] 5)).heap.size = wr.heap.size + 1 by simp] at h
               exact (h.drewN 1).grown hg (by simp [Value.ownBlock])))
             clear ho hg hv)
          | (refine step_app_b _ Gp.byteP rfl (.tmp 15) (.tmp 20) (by rfl) wr.heap.size (.slice (some ⟨wr.heap.size + 1, 0, none⟩) 0 3) 0 [] (by rfl) (by exact ow_mk3b wr _) w.heap.size A' k c' (rest.take k) (by rfl) (by exact HRW.out _ ((((Below.refl _ _).alloc (Nat.le_refl _) _).alloc (by simp) _).drew)) (by omega) (by simp [World.drew]; omega) ?_
             intro A1 cap1 w1 ho hg hv
             have HO1 := Lib.hid (show Ow w1 wr.heap.size 5 (.slice A1 k cap1) k (rest.take k) by simpa using ho)
             have HG1 := Lib.hid (show Below wr.heap.size wr w1 from ((((Below.refl _ _).alloc (Nat.le_refl _) _).alloc (by simp) _).drew).grown hg (by simp [World.drew]; omega) (fun r e => by cases e; exact Nat.le_succ _))
             have HBS := Lib.hid (show Rd w1 (wr.heap.size + 1) (some ⟨wr.heap.size, 0, none⟩) 2 [0, 0] from rd_blk2 (by
               exact ((((Blk.new wr 5 #[.int .u8 0, .int .u8 0]).alloc (.cells #[.int .u8 0, .int .u8 0, .int .u8 0] 5)).drewN 1).grown hg (by simp [Value.ownBlock]))))
             clear ho hg hv)
          | (have _t := tokA
             refine step_app_b _ Gp.byteP rfl (.tmp 21) (.tmp 22) (by rfl) wr.heap.size (.slice A1 k cap1) k (rest.take k) (by rfl) (by exact HO1.out.alloc _) (w1.heap.size + 1) (some ⟨w1.heap.size, 0, none⟩) 2 2 [0, 0] (by rfl) (by exact rd_two w1) (by omega) (by have := HG1.out.size; simp; omega) ?_
             intro A2 cap2 w2 ho hg hv
             have HO2 := Lib.hid ho
             have HG2 := Lib.hid (show Below wr.heap.size wr w2 from (HG1.out.alloc HG1.out.size _).grown hg (by have := HG1.out.size; simp; omega) (fun r e => (HO1.out.lt e).2))
             clear ho hg hv)
          | (refine step_app_b _ Gp.byteP rfl (.tmp 21) (.tmp 22) (by rfl) wr.heap.size (.slice A1 k cap1) k (rest.take k) (by rfl) (by exact HO1.out) _ _ 2 2 [0, 0] (by rfl) (by exact HBS.out) (by omega) (by exact HG1.out.size) ?_
             intro A2 cap2 w2 ho hg hv
             have HO2 := Lib.hid ho
             have HG2 := Lib.hid (show Below wr.heap.size wr w2 from HG1.out.grown hg HG1.out.size (fun r e => (HO1.out.lt e).2))
             clear ho hg hv))
        all_goals
          go_wp2
          go_meet
          exact Lib.hid ⟨A2, cap2, rfl, HO2.out, HG2.out⟩
      case rest =>
        obtain ⟨A3, cap3, rfl, ho3, hb3⟩ := hcut.out
        obtain ⟨g3, rfl⟩ : ∃ g, A3 = some ⟨g, 0, none⟩ := by
          rcases ho3.2 with ⟨e, h⟩ | ⟨g, cap, cur, e, _⟩
          · omega
          · injection e with e _ _
            exact ⟨g, e⟩
        have b0 := World.ownsRow.cellAt ho3 0 (by omega)
        have b1 := World.ownsRow.cellAt ho3 1 (by omega)
        have b2 := World.ownsRow.cellAt ho3 2 (by omega)
        have ht : (rest.take k ++ [0, 0]).length = k + 2 := ho3.len
        have e0 : ((rest.take k ++ [0, 0]).map bv)[0]? = some (.int .u8 (((rest.take k).getD 0 0).toNat : Int)) := map_at _ k ho3.len 0 (by omega)
        have e1 : ((rest.take k ++ [0, 0]).map bv)[1]? = some (.int .u8 (((rest.take k).getD 1 0).toNat : Int)) := map_at _ k ho3.len 1 (by omega)
        have e2 : ((rest.take k ++ [0, 0]).map bv)[2]? = some (.int .u8 (((rest.take k).getD 2 0).toNat : Int)) := map_at _ k ho3.len 2 (by omega)
        rw [e0] at b0
        rw [e1] at b1
        rw [e2] at b2
        obtain ⟨x0, hx0⟩ : ∃ x, ((rest.take k).getD 0 0).toNat = x := ⟨_, rfl⟩
        obtain ⟨x1, hx1⟩ : ∃ x, ((rest.take k).getD 1 0).toNat = x := ⟨_, rfl⟩
        obtain ⟨x2, hx2⟩ : ∃ x, ((rest.take k).getD 2 0).toNat = x := ⟨_, rfl⟩
        have l0 : x0 < 256 := by rw [← hx0]; exact UInt8.toNat_lt _
        have l1 : x1 < 256 := by rw [← hx1]; exact UInt8.toNat_lt _
        have l2 : x2 < 256 := by rw [← hx2]; exact UInt8.toNat_lt _
        have HN3 := Lib.hid (show num3 (rest.take k) = x0 * 65536 + x1 * 256 + x2 from by rw [← hx0, ← hx1, ← hx2]; rfl)
        rw [hx0] at b0
        rw [hx1] at b1
        rw [hx2] at b2
        have HB3 := Lib.hid hb3
        clear e0 e1 e2 hx0 hx1 hx2 ht ho3 hb3 hcut hsl hmk
        have hbits := bits3 x0 x1 x2 l0 l1 l2
        obtain ⟨N, hN⟩ : ∃ N, x0 * 65536 + x1 * 256 + x2 = N := ⟨_, rfl⟩
        rw [hN] at hbits HN3
        have hN24 : N < 16777216 := by omega
        clear hN
        go_wp2_with fail
        go_quiet (fail)
        clear b0 b1 b2 hbits
        have HB4 := Lib.hid (hh.out.2.1.trans ((below_drewN HB3.out nq).mono hh.out.2.1.size))
        have HO4 := Lib.hid (hh.out.2.2.1.below (below_drewN HB3.out nq) (fun g e => (hh.out.2.2.1.lt e).1))
        generalize World.drewN _ _ = w5 at HB4 HO4 ⊢
        go_wp2_with fail
        go_loopw [40, 3] (fun i o wx => ∃ j : Nat, j ≤ 4 ∧ i = .int .i64 (j : Int) ∧ Hid (Ow wx w.heap.size 5 o (m + j) (done ++ (q4 N k).take j) ∧ Below w.heap.size w wx)) (fun i _ _ => 4 - (intOf i).toNat)
        case atStart => exact ⟨0, by omega, rfl, Lib.hid ⟨by simpa using HO4.out, HB4.out⟩⟩
        case round =>
          obtain ⟨j, hj, rfl, hq⟩ := hrel
          have HQ := Lib.hid hq.out
          clear hq
          have hj4 : j = 0 ∨ j = 1 ∨ j = 2 ∨ j = 3 ∨ j = 4 := by omega
          have hmb := hh.out.2.2.2.1
          rcases hj4 with rfl | rfl | rfl | rfl | rfl
          · have ha : bits .and .u32 ((N : Int) / 262144) 63 = ((N / 262144 % 64 : Nat) : Int) := by
              rw [show (N : Int) / 262144 = ((N / 262144 : Nat) : Int) by omega]
              exact u32_and63 _ (by omega)
            have hi := idx32 (N / 262144 % 64) (by omega)
            have HT := Lib.hid (show (q4 N k).take (0 + 1) = (q4 N k).take 0 ++ [lt (N / 262144 % 64)] from q4_yes N k 0 (by omega) (by omega) _ (by simp))
            generalize N / 262144 % 64 = q at ha hi HT
            go_wp2_with (at_builtin; refine wpList_app_any _ Gp.byteP rfl (.tmp 50) (.tmp 58) rfl w.heap.size _ (m + 0) _ rfl (HQ.out.1.alloc _) (wr.heap.size + 1) (some ⟨wr.heap.size, 0, none⟩) 1 1 [lt q] rfl (Rd.one _ _ _ _ rfl) (by omega) (by have := HQ.out.2.size; simp; omega) ?_; intro A5 cap5 w6 ho6 hg6 hl6 hm6 hm7)
            go_roundw
            case rel => exact ⟨0 + 1, by omega, by go_num, Lib.hid ⟨by rw [HT.out, ← List.append_assoc]; exact ho6, (HQ.out.2.alloc HQ.out.2.size _).grown hg6 (by have := HQ.out.2.size; simp; omega) (fun g e => (HQ.out.1.lt e).2)⟩⟩
            case measure => simp [intOf]
          · have ha : bits .and .u32 ((N : Int) / 4096) 63 = ((N / 4096 % 64 : Nat) : Int) := by
              rw [show (N : Int) / 4096 = ((N / 4096 : Nat) : Int) by omega]
              exact u32_and63 _ (by omega)
            have hi := idx32 (N / 4096 % 64) (by omega)
            have HT := Lib.hid (show (q4 N k).take (1 + 1) = (q4 N k).take 1 ++ [lt (N / 4096 % 64)] from q4_yes N k 1 (by omega) (by omega) _ (by simp))
            generalize N / 4096 % 64 = q at ha hi HT
            go_wp2_with (at_builtin; refine wpList_app_any _ Gp.byteP rfl (.tmp 50) (.tmp 58) rfl w.heap.size _ (m + 1) _ rfl (HQ.out.1.alloc _) (wr.heap.size + 1) (some ⟨wr.heap.size, 0, none⟩) 1 1 [lt q] rfl (Rd.one _ _ _ _ rfl) (by omega) (by have := HQ.out.2.size; simp; omega) ?_; intro A5 cap5 w6 ho6 hg6 hl6 hm6 hm7)
            go_roundw
            case rel => exact ⟨1 + 1, by omega, by go_num, Lib.hid ⟨by rw [HT.out, ← List.append_assoc]; exact ho6, (HQ.out.2.alloc HQ.out.2.size _).grown hg6 (by have := HQ.out.2.size; simp; omega) (fun g e => (HQ.out.1.lt e).2)⟩⟩
            case measure => simp [intOf]
          · by_cases hjk : 2 ≤ k
            · have hd : ¬ ((n' : Int) < 2) := by have := HK.out; omega
              have ha : bits .and .u32 ((N : Int) / 64) 63 = ((N / 64 % 64 : Nat) : Int) := by
                rw [show (N : Int) / 64 = ((N / 64 : Nat) : Int) by omega]
                exact u32_and63 _ (by omega)
              have hi := idx32 (N / 64 % 64) (by omega)
              have HT := Lib.hid (show (q4 N k).take (2 + 1) = (q4 N k).take 2 ++ [lt (N / 64 % 64)] from q4_yes N k 2 (by omega) (by omega) _ (by simp))
              generalize N / 64 % 64 = q at ha hi HT
              go_wp2_with (at_builtin; refine wpList_app_any _ Gp.byteP rfl (.tmp 50) (.tmp 58) rfl w.heap.size _ (m + 2) _ rfl (HQ.out.1.alloc _) (wr.heap.size + 1) (some ⟨wr.heap.size, 0, none⟩) 1 1 [lt q] rfl (Rd.one _ _ _ _ rfl) (by omega) (by have := HQ.out.2.size; simp; omega) ?_; intro A5 cap5 w6 ho6 hg6 hl6 hm6 hm7)
              go_roundw
              case rel => exact ⟨2 + 1, by omega, by go_num, Lib.hid ⟨by rw [HT.out, ← List.append_assoc]; exact ho6, (HQ.out.2.alloc HQ.out.2.size _).grown hg6 (by have := HQ.out.2.size; simp; omega) (fun g e => (HQ.out.1.lt e).2)⟩⟩
              case measure => simp [intOf]
            · have hd : ((n' : Int) < 2) := by have := HK.out; omega
              have HT := Lib.hid (show (q4 N k).take (2 + 1) = (q4 N k).take 2 ++ [61] from q4_no N k 2 (by omega) (by omega))
              go_wp2_with (at_builtin; refine wpList_app_any _ Gp.byteP rfl (.tmp 47) (.tmp 48) rfl w.heap.size _ (m + 2) _ rfl (HQ.out.1.alloc _) (wr.heap.size + 1) (some ⟨wr.heap.size, 0, none⟩) 1 1 [61] rfl (Rd.one _ _ _ _ rfl) (by omega) (by have := HQ.out.2.size; simp; omega) ?_; intro A5 cap5 w6 ho6 hg6 hl6 hm6 hm7)
              go_roundw
              case rel => exact ⟨2 + 1, by omega, by go_num, Lib.hid ⟨by rw [HT.out, ← List.append_assoc]; exact ho6, (HQ.out.2.alloc HQ.out.2.size _).grown hg6 (by have := HQ.out.2.size; simp; omega) (fun g e => (HQ.out.1.lt e).2)⟩⟩
              case measure => simp [intOf]
          · by_cases hjk : 3 ≤ k
            · have hd : ¬ ((n' : Int) < 3) := by have := HK.out; omega
              have ha : bits .and .u32 ((N : Int)) 63 = ((N / 1 % 64 : Nat) : Int) := by
                rw [show (N : Int) = ((N / 1 : Nat) : Int) by omega]
                exact u32_and63 _ (by omega)
              have hi := idx32 (N / 1 % 64) (by omega)
              have HT := Lib.hid (show (q4 N k).take (3 + 1) = (q4 N k).take 3 ++ [lt (N / 1 % 64)] from q4_yes N k 3 (by omega) (by omega) _ (by simp))
              generalize N / 1 % 64 = q at ha hi HT
              go_wp2_with (at_builtin; refine wpList_app_any _ Gp.byteP rfl (.tmp 50) (.tmp 58) rfl w.heap.size _ (m + 3) _ rfl (HQ.out.1.alloc _) (wr.heap.size + 1) (some ⟨wr.heap.size, 0, none⟩) 1 1 [lt q] rfl (Rd.one _ _ _ _ rfl) (by omega) (by have := HQ.out.2.size; simp; omega) ?_; intro A5 cap5 w6 ho6 hg6 hl6 hm6 hm7)
              go_roundw
              case rel => exact ⟨3 + 1, by omega, by go_num, Lib.hid ⟨by rw [HT.out, ← List.append_assoc]; exact ho6, (HQ.out.2.alloc HQ.out.2.size _).grown hg6 (by have := HQ.out.2.size; simp; omega) (fun g e => (HQ.out.1.lt e).2)⟩⟩
              case measure => simp [intOf]
            · have hd : ((n' : Int) < 3) := by have := HK.out; omega
              have HT := Lib.hid (show (q4 N k).take (3 + 1) = (q4 N k).take 3 ++ [61] from q4_no N k 3 (by omega) (by omega))
              go_wp2_with (at_builtin; refine wpList_app_any _ Gp.byteP rfl (.tmp 47) (.tmp 48) rfl w.heap.size _ (m + 3) _ rfl (HQ.out.1.alloc _) (wr.heap.size + 1) (some ⟨wr.heap.size, 0, none⟩) 1 1 [61] rfl (Rd.one _ _ _ _ rfl) (by omega) (by have := HQ.out.2.size; simp; omega) ?_; intro A5 cap5 w6 ho6 hg6 hl6 hm6 hm7)
              go_roundw
              case rel => exact ⟨3 + 1, by omega, by go_num, Lib.hid ⟨by rw [HT.out, ← List.append_assoc]; exact ho6, (HQ.out.2.alloc HQ.out.2.size _).grown hg6 (by have := HQ.out.2.size; simp; omega) (fun g e => (HQ.out.1.lt e).2)⟩⟩
              case measure => simp [intOf]
          · obtain ⟨A4, hA4, hsl4⟩ := cut_from (c := c') Gp.byteP (HRw.out.below HQ.out.2) (k : Int) (k := k) rfl (by omega) hnc'
            have HA4 := Lib.hid hA4
            have HE4 := Lib.hid (show (done ++ q4 N k) ++ b64p (rest.drop k) = b64p l from by
              rw [← hh.out.2.2.2.2, b64p_step rest k (by rw [hh.out.1.len]; exact HK.out) hk0, HN3.out, List.append_assoc])
            clear hA4
            go_wp2_with fail
            exact ⟨⟨A4, n' - k, c' - k, m + 4, rest.drop k, done ++ q4 N k, rfl, by omega, by omega, Lib.hid ⟨HA4.out, HQ.out.2, by have h := HQ.out.1; rwa [List.take_of_length_le (by rw [q4_len N k hk3]; exact Nat.le_refl _)] at h, by have := HK.out; omega, HE4.out⟩⟩, by simp only [lenOf]; omega⟩
    · obtain rfl : n' = 0 := by omega
      have hrn : rest = [] := List.eq_nil_of_length_eq_zero hh.out.1.len
      obtain ⟨Ao, co, hov, _, _, hor⟩ := hh.out.2.2.1.form
      subst hov
      have hcv := run_str (P := Tryz.prog) (c := co) 53 9 5 Tryz.underlying53 Tryz.underlying5 Tryz.underlying9 hor
      have HF := Lib.hid (show done = b64p l from by
        have h := hh.out.2.2.2.2
        rw [hrn] at h
        simpa [b64p, b64, fill] using h)
      have HB := Lib.hid hh.out.2.1
      clear hh hrn hor hmk
      go_wp2
      go_ret
      exact ⟨by rw [← HF.out]; rfl, HB.out⟩
end Go.Proofs.YtoafmhbgbofgoaaGreatDoor
