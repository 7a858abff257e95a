/-
  Contract: stamp.PrintSpan.
-/
import Derived.Test.YtacmlpgakibdgaaDoorSt7
namespace Go.Proofs.YtacmlpgakibdgaaDoor
open Go.RowKit Go.Own Go.Own.Dig Go.Own.Alg

/-- What PrintSpan keeps while its text is put together. -/
def Kp (ev : Addr) (w : World) (a b : Nat) (W : World) : Prop :=
  EnvS W ev ∧ Below w.heap.size w W ∧ Blk W w.heap.size 32 #[.int .i64 (a : Int), .int .i64 (b : Int)]
theorem Kp.step {ev : Addr} {w W W' : World} {a b : Nat} (h : Kp ev w a b W) (hb : Below W.heap.size W W') : Kp ev w a b W' :=
  ⟨h.1.below hb h.1.room, h.2.1.trans (hb.mono h.2.1.size), h.2.2.below hb h.2.2.lt⟩
theorem Kp.drewN {ev : Addr} {w W : World} {a b : Nat} (h : Kp ev w a b W) (k : Nat) : Kp ev w a b (W.drewN k) :=
  ⟨h.1.below (below_drewN (Below.refl W.heap.size W) k) h.1.room, below_drewN h.2.1 k, h.2.2.drewN k⟩
theorem Kp.drew {ev : Addr} {w W : World} {a b : Nat} (h : Kp ev w a b W) : Kp ev w a b W.drew := h.drewN 1
theorem Kp.c0 {ev : Addr} {w W : World} {a b : Nat} (h : Kp ev w a b W) : W.cell? ⟨w.heap.size, 0, none⟩ = some (.int .i64 (a : Int)) := h.2.2.cell 0
theorem Kp.c1 {ev : Addr} {w W : World} {a b : Nat} (h : Kp ev w a b W) : W.cell? ⟨w.heap.size, 1, none⟩ = some (.int .i64 (b : Int)) := h.2.2.cell 1

theorem span_bytes0 (D R : List UInt8) : (((⟨#[]⟩ : ByteArray) ++ ⟨D.toArray⟩) ++ ⟨R.toArray⟩) ++ ⟨#[115]⟩ = ⟨(D ++ (R ++ [115])).toArray⟩ := by
  have h1 := bytes_app [] D
  have h2 := bytes_app D R
  have h3 := bytes_app (D ++ R) [115]
  rw [List.nil_append] at h1
  rw [show (⟨#[]⟩ : ByteArray) = ⟨([] : List UInt8).toArray⟩ from rfl, h1, h2, show (⟨#[115]⟩ : ByteArray) = ⟨[115].toArray⟩ from rfl, h3, List.append_assoc]
theorem span_bytes1 (D R : List UInt8) : (((⟨#[45]⟩ : ByteArray) ++ ⟨D.toArray⟩) ++ ⟨R.toArray⟩) ++ ⟨#[115]⟩ = ⟨(45 :: (D ++ (R ++ [115]))).toArray⟩ := by
  have h1 := bytes_app [45] D
  have h2 := bytes_app ([45] ++ D) R
  have h3 := bytes_app ([45] ++ D ++ R) [115]
  rw [show (⟨#[45]⟩ : ByteArray) = ⟨[45].toArray⟩ from rfl, h1, h2, show (⟨#[115]⟩ : ByteArray) = ⟨[115].toArray⟩ from rfl, h3, List.append_assoc, List.append_assoc]
  rfl

def SpanPost (t : List UInt8) (w : World) (x : Ending) (w' : World) : Prop := x = .returned (.tuple #[.string ⟨t.toArray⟩, .nilIface]) ∧ Below w.heap.size w w'

theorem dec_len (a : Nat) (ha : a ≤ 315576000000) : (Lib.decDigits a).length ≤ 12 := by rw [Lib.decDigits_length]; exact nDigits_le 11 a (by omega)

set_option maxHeartbeats 2000000 in
set_option maxRecDepth 100000 in
theorem printSpan_pos (a b : Nat) (w : World) (ev : Addr) (he : EnvS w ev) (hv : okS (a : Int) (b : Int) = true) :
    Calls Tryd.prog 15 #[.agg #[.int .i64 (a : Int), .int .i64 (b : Int)]] w (SpanPost (Lib.decDigits a ++ (fracT b ++ [115])) w) := by
  have HE := Lib.hid he
  have h8 := he.room
  obtain ⟨ha1, ha2, hb1, hb2, _, _⟩ := of_decide_eq_true hv
  have HV := Lib.hid hv
  have hdl := dec_len a (by omega)
  have hfl := fracT_len_le b
  have HI := Lib.hid (fun (W : World) (hW : EnvS W ev) => itoa_any a W ev hW (by omega))
  have HF := Lib.hid (fun (W : World) (hW : EnvS W ev) => fraction_any b W ev hW (by omega))
  generalize Lib.decDigits a = D at *
  generalize fracT b = R at *
  have n1 : decide ((a : Int) < 0) = false := decide_eq_false (by omega)
  have n2 : decide ((b : Int) < 0) = false := decide_eq_false (by omega)
  clear he hv
  go_enter Tryd.func15, Tryd.ntmps15
  go_wp2_with fail
  refine (validSpan_any (a : Int) (b : Int) _).mono ?_
  rw [HV.out]
  rintro x w1 ⟨rfl, hw1⟩
  have hK : Kp ev w a b w1 := by
    subst hw1
    have hb : Below w.heap.size w ((w.alloc (.cells #[.int .i64 (a : Int), .int .i64 (b : Int)] 32)).alloc (.cells #[.int .i64 (a : Int), .int .i64 (b : Int)] 32)) := ((Below.refl _ _).alloc (Nat.le_refl _) _).alloc (by simp) _
    exact ⟨HE.out.below hb h8, hb, (Blk.new w _ _).alloc _⟩
  clear hw1
  have c0 := hK.drew.c0
  have c1 := hK.drew.c1
  have k0 := hK.c0
  have k1 := hK.c1
  have HK := Lib.hid hK.drew
  clear hK
  go_wp2_with fail
  clear ha1 ha2 hb1 hb2
  go_region_with (first
    | (go_at_call 32; first
        | (refine (HI.out _ (by exact HK2.out.1)).mono ?_; rintro x w3 ⟨rfl, hb3⟩; have HK3 := Lib.hid (HK2.out.step hb3); clear hb3)
        | (refine (HI.out _ (by exact HK.out.1)).mono ?_; rintro x w2 ⟨rfl, hb2⟩; have hk2 := HK.out.step hb2; have e0 := hk2.c0; have e1 := hk2.c1; have HK2 := Lib.hid hk2; clear hb2 hk2))
    | (go_at_call 26; first
        | (refine (HF.out _ (by exact HK2.out.1)).mono ?_; rintro x w3 ⟨rfl, hb3⟩; have HK3 := Lib.hid (HK2.out.step hb3); clear hb3)
        | (refine (HF.out _ (by exact HK.out.1)).mono ?_; rintro x w2 ⟨rfl, hb2⟩; have hk2 := HK.out.step hb2; have e0 := hk2.c0; have e1 := hk2.c1; have HK2 := Lib.hid hk2; clear hb2 hk2)))
  all_goals
    clear c0 c1 k0 k1 HK HK2
    go_wp2
    go_ret2
    exact ⟨by rw [← span_bytes0]; rfl, HK3.out.2.1⟩
set_option maxHeartbeats 2000000 in
set_option maxRecDepth 100000 in
theorem printSpan_neg (a b : Nat) (w : World) (ev : Addr) (he : EnvS w ev) (hv : okS (-(a : Int)) (-(b : Int)) = true) (hneg : 0 < a ∨ 0 < b) :
    Calls Tryd.prog 15 #[.agg #[.int .i64 (-(a : Int)), .int .i64 (-(b : Int))]] w (SpanPost (45 :: (Lib.decDigits a ++ (fracT b ++ [115]))) w) := by
  have HE := Lib.hid he
  have h8 := he.room
  obtain ⟨ha1, ha2, hb1, hb2, _, _⟩ := of_decide_eq_true hv
  have HV := Lib.hid hv
  have hdl := dec_len a (by omega)
  have hfl := fracT_len_le b
  have HI := Lib.hid (fun (W : World) (hW : EnvS W ev) => itoa_any a W ev hW (by omega))
  have HF := Lib.hid (fun (W : World) (hW : EnvS W ev) => fraction_any b W ev hW (by omega))
  generalize Lib.decDigits a = D at *
  generalize fracT b = R at *
  clear he hv
  go_enter Tryd.func15, Tryd.ntmps15
  go_wp2_with fail
  refine (validSpan_any (-(a : Int)) (-(b : Int)) _).mono ?_
  rw [HV.out]
  rintro x w1 ⟨rfl, rfl⟩
  by_cases hs : 0 < a
  · have n1 : decide (-(a : Int) < 0) = true := decide_eq_true (by omega)
    go_wp2_with fail
    go_region
    have hK : Kp ev w a b ((w.alloc (.cells #[.int .i64 (a : Int), .int .i64 (b : Int)] 32)).alloc (.cells #[.int .i64 (-(a : Int)), .int .i64 (-(b : Int))] 32)).drew := by
      have hb : Below w.heap.size w ((w.alloc (.cells #[.int .i64 (a : Int), .int .i64 (b : Int)] 32)).alloc (.cells #[.int .i64 (-(a : Int)), .int .i64 (-(b : Int))] 32)) := ((Below.refl _ _).alloc (Nat.le_refl _) _).alloc (by simp) _
      exact Kp.drew ⟨HE.out.below hb h8, hb, (Blk.new w _ _).alloc _⟩
    generalize ((w.alloc (.cells #[.int .i64 (a : Int), .int .i64 (b : Int)] 32)).alloc (.cells #[.int .i64 (-(a : Int)), .int .i64 (-(b : Int))] 32)).drew = w1 at hK ⊢
    have c0 := hK.drew.c0
    have c1 := hK.drew.c1
    have k0 := hK.c0
    have k1 := hK.c1
    have HK := Lib.hid hK.drew
    clear hK
    go_wp2_with fail
    clear ha1 ha2 hb1 hb2 hneg
    go_region_with (first
      | (go_at_call 32; first
          | (refine (HI.out _ (by exact HK2.out.1)).mono ?_; rintro x w3 ⟨rfl, hb3⟩; have HK3 := Lib.hid (HK2.out.step hb3); clear hb3)
          | (refine (HI.out _ (by exact HK.out.1)).mono ?_; rintro x w2 ⟨rfl, hb2⟩; have hk2 := HK.out.step hb2; have e0 := hk2.c0; have e1 := hk2.c1; have HK2 := Lib.hid hk2; clear hb2 hk2))
      | (go_at_call 26; first
          | (refine (HF.out _ (by exact HK2.out.1)).mono ?_; rintro x w3 ⟨rfl, hb3⟩; have HK3 := Lib.hid (HK2.out.step hb3); clear hb3)
          | (refine (HF.out _ (by exact HK.out.1)).mono ?_; rintro x w2 ⟨rfl, hb2⟩; have hk2 := HK.out.step hb2; have e0 := hk2.c0; have e1 := hk2.c1; have HK2 := Lib.hid hk2; clear hb2 hk2)))
    all_goals
      clear c0 c1 k0 k1 HK HK2
      go_wp2
      go_ret2
      exact ⟨by rw [← span_bytes1]; rfl, HK3.out.2.1⟩
  · have n1 : decide (-(a : Int) < 0) = false := decide_eq_false (by omega)
    have n2 : decide (-(b : Int) < 0) = true := decide_eq_true (by omega)
    go_wp2_with fail
    go_region
    have hK : Kp ev w a b ((w.alloc (.cells #[.int .i64 (a : Int), .int .i64 (b : Int)] 32)).alloc (.cells #[.int .i64 (-(a : Int)), .int .i64 (-(b : Int))] 32)).drew := by
      have hb : Below w.heap.size w ((w.alloc (.cells #[.int .i64 (a : Int), .int .i64 (b : Int)] 32)).alloc (.cells #[.int .i64 (-(a : Int)), .int .i64 (-(b : Int))] 32)) := ((Below.refl _ _).alloc (Nat.le_refl _) _).alloc (by simp) _
      exact Kp.drew ⟨HE.out.below hb h8, hb, (Blk.new w _ _).alloc _⟩
    generalize ((w.alloc (.cells #[.int .i64 (a : Int), .int .i64 (b : Int)] 32)).alloc (.cells #[.int .i64 (-(a : Int)), .int .i64 (-(b : Int))] 32)).drew = w1 at hK ⊢
    have c0 := hK.drew.c0
    have c1 := hK.drew.c1
    have k0 := hK.c0
    have k1 := hK.c1
    have HK := Lib.hid hK.drew
    clear hK
    go_wp2_with fail
    clear ha1 ha2 hb1 hb2 hneg
    go_region_with (first
      | (go_at_call 32; first
          | (refine (HI.out _ (by exact HK2.out.1)).mono ?_; rintro x w3 ⟨rfl, hb3⟩; have HK3 := Lib.hid (HK2.out.step hb3); clear hb3)
          | (refine (HI.out _ (by exact HK.out.1)).mono ?_; rintro x w2 ⟨rfl, hb2⟩; have hk2 := HK.out.step hb2; have e0 := hk2.c0; have e1 := hk2.c1; have HK2 := Lib.hid hk2; clear hb2 hk2))
      | (go_at_call 26; first
          | (refine (HF.out _ (by exact HK2.out.1)).mono ?_; rintro x w3 ⟨rfl, hb3⟩; have HK3 := Lib.hid (HK2.out.step hb3); clear hb3)
          | (refine (HF.out _ (by exact HK.out.1)).mono ?_; rintro x w2 ⟨rfl, hb2⟩; have hk2 := HK.out.step hb2; have e0 := hk2.c0; have e1 := hk2.c1; have HK2 := Lib.hid hk2; clear hb2 hk2)))
    all_goals
      clear c0 c1 k0 k1 HK HK2
      go_wp2
      go_ret2
      exact ⟨by rw [← span_bytes1]; rfl, HK3.out.2.1⟩

set_option maxHeartbeats 400000 in
theorem printSpan_no (s n : Int) (w : World) (ev : Addr) (he : EnvS w ev) (hv : okS s n = false) :
    Calls Tryd.prog 15 #[.agg #[.int .i64 s, .int .i64 n]] w fun e w' => e = .returned (resP ev) ∧ Below w.heap.size w w' := by
  have hc := he.value
  have h8 := he.room
  have hz : 0 < w.heap.size := by omega
  have HV := Lib.hid hv
  clear he hv
  go_enter Tryd.func15, Tryd.ntmps15
  go_wp2_with fail
  refine (validSpan_any s n _).mono ?_
  rw [HV.out]
  rintro e w1 ⟨rfl, rfl⟩
  go_wp2_with fail
  go_region
  go_wp2
  go_ret2
  exact ⟨rfl, (by repeat (first | exact Below.refl _ _ | refine Below.drew ?_ | refine Below.alloc ?_ (by simp <;> omega) _))⟩

theorem printSpan_yes (s n : Int) (w : World) (ev : Addr) (he : EnvS w ev) (hv : okS s n = true) :
    Calls Tryd.prog 15 #[.agg #[.int .i64 s, .int .i64 n]] w (SpanPost (spanT s n) w) := by
  have hb := of_decide_eq_true hv
  unfold spanT
  by_cases hneg : s < 0 ∨ n < 0
  · rw [if_pos hneg]
    have h := printSpan_neg s.natAbs n.natAbs w ev he (by rw [show -(s.natAbs : Int) = s by omega, show -(n.natAbs : Int) = n by omega]; exact hv) (by omega)
    rw [show -(s.natAbs : Int) = s by omega, show -(n.natAbs : Int) = n by omega] at h
    rw [List.singleton_append]
    exact h
  · rw [if_neg hneg, List.nil_append]
    have h := printSpan_pos s.natAbs n.natAbs w ev he (by rw [show (s.natAbs : Int) = s by omega, show (n.natAbs : Int) = n by omega]; exact hv)
    rw [show (s.natAbs : Int) = s by omega, show (n.natAbs : Int) = n by omega] at h
    exact h
end Go.Proofs.YtacmlpgakibdgaaDoor
