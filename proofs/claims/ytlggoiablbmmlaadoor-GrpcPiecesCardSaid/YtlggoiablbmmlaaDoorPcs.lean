/-
  GrpcPieces: in whatever pieces the bytes come, the same messages are told.
-/
import Derived.Test.YtlggoiablbmmlaaDoorLst
namespace Go.Own
open Go.RowKit
theorem run_sub {P : Program} {t e : TypeId} (hP : ByteP P t e) (A : Option Addr) (n c k u : Nat) (hk : k + u ≤ n) (hc : n ≤ c) (W : World) :
    (Instr.slice t (.slice A n c) (some (.int .i64 (k : Int))) (some (.int .i64 (((k + u : Nat)) : Int))) none).run P W = .ok (.slice (if c = k then A else A.map fun x => x.add k) u (c - k)) W := by
  obtain ⟨i, hi, hz, h1, h2⟩ := hP.info
  simp [Instr.slice, run_underlying hP.slice, Instr.sliceBounds, run_sliceBound, sizeOf, typeInfo, hi, h1, Result.andThen, show k ≤ k + u by omega, show (k : Int) ≤ (k + u : Nat) by omega, show ((k + u : Nat) : Int) ≤ c by omega, -Int.natCast_add]
theorem cut_sub {P : Program} {t e : TypeId} (hP : ByteP P t e) {w : World} {B n c k u : Nat} {A : Option Addr} {l : List UInt8} (h : Rd w B A n l) (hk : k + u ≤ n) (hc : n ≤ c) (x y : Int) (hx : x = (k : Int)) (hy : y = ((k + u : Nat) : Int)) :
    ∃ A', Rd w B A' u ((l.drop k).take u) ∧ ∀ W : World, (Instr.slice t (.slice A n c) (some (.int .i64 x)) (some (.int .i64 y)) none).run P W = .ok (.slice A' u (c - k)) W :=
  ⟨_, h.sub hk hc, fun W => by rw [hx, hy]; exact run_sub hP A n c k u hk hc W⟩
end Go.Own
namespace Go.Own.Grpc
theorem enc_len (M : Nat) : ∀ ms : List (List UInt8), (∀ m ∈ ms, m.length ≤ M) → (enc ms).length ≤ ms.length * (5 + M)
  | [], _ => by simp [enc]
  | m :: ms, h => by
    have h1 := enc_len M ms fun x hx => h x (by simp [hx])
    have h2 := h m (by simp)
    simp [enc, hdr_len, Nat.add_mul]
    omega
theorem enc_take_snoc (ms : List (List UInt8)) (j : Nat) (h : j < ms.length) : enc (ms.take (j + 1)) = enc (ms.take j) ++ hdr (ms.getD j []).length ++ ms.getD j [] := by
  have e1 : ms.take (j + 1) = ms.take j ++ [ms.getD j []] := by
    rw [List.take_add_one, List.getElem?_eq_getElem h]
    simp [List.getD, h]
  rw [e1, enc_snoc]
/-- A step of the reading: what is left, with a piece more. -/
theorem chw_step (ms : List (List UInt8)) (hm : ∀ m ∈ ms, m.length ≤ 8192) (J p' q : Nat) (hJ : J ≤ ms.length) (hp' : p' ≤ (enc (ms.drop J)).length) (hq : (enc (ms.take J)).length + p' + q ≤ (enc ms).length) :
    ∃ J2 p2, J ≤ J2 ∧ J2 ≤ ms.length ∧ p2 ≤ (enc (ms.drop J2)).length ∧ (enc (ms.take J2)).length + p2 = (enc (ms.take J)).length + p' + q ∧
      chw 8192 ((enc (ms.drop J)).take p' ++ ((enc ms).drop ((enc (ms.take J)).length + p')).take q) [] = (0, (ms.drop J).take (J2 - J), (enc (ms.drop J2)).take p2) ∧
      ms.take J2 = ms.take J ++ (ms.drop J).take (J2 - J) ∧ ((enc (ms.take J)).length + p' + q = (enc ms).length → J2 = ms.length) := by
  have e0 : enc ms = enc (ms.take J) ++ enc (ms.drop J) := by rw [← enc_append, List.take_append_drop]
  have el : (enc ms).length = (enc (ms.take J)).length + (enc (ms.drop J)).length := by rw [e0, List.length_append]
  have e1 : (enc ms).drop ((enc (ms.take J)).length + p') = (enc (ms.drop J)).drop p' := by
    rw [e0, List.drop_append, List.drop_of_length_le (by omega)]
    simp
  have e2 : (enc (ms.drop J)).take p' ++ ((enc (ms.drop J)).drop p').take q = (enc (ms.drop J)).take (p' + q) := by
    rw [List.take_add]
  rw [e1, e2]
  obtain ⟨j, p2, h1, h2, h3, h4, h5⟩ := chw_enc 8192 (by omega) (ms.drop J) (p' + q) [] (by
    intro m hmm
    have := hm m (List.mem_of_mem_drop hmm)
    omega) (by omega)
  rw [List.length_drop] at h1
  have e3 : ms.take (J + j) = ms.take J ++ (ms.drop J).take j := by rw [List.take_add]
  refine ⟨J + j, p2, by omega, by omega, ?_, ?_, ?_, ?_, ?_⟩
  · rw [← List.drop_drop]; exact h2
  · rw [e3, enc_append, List.length_append]; omega
  · rw [h4, show J + j - J = j by omega, ← List.drop_drop]; simp
  · rw [show J + j - J = j by omega]; exact e3
  · intro h
    have := h5 (by omega)
    rw [List.length_drop] at this
    omega
end Go.Own.Grpc
namespace Go.Proofs.YtlggoiablbmmlaaDoor
open Go.RowKit Go.Own Go.Own.Grpc
/-- What stands in memory ahead of a piece. -/
structure PcI (w2 : World) (ms : List (List UInt8)) (wr : World) (J p' : Nat) (A9 : Option Addr) (n9 c9 : Nat) (gs : List Nat) (v : Value) : Prop where
  below : Below w2.heap.size w2 wr
  blk : RdB wr w2.heap.size 8192 (.slice A9 n9 c9) false
  om : Om wr w2.heap.size (.slice A9 n9 c9) n9 ((enc (ms.drop J)).take p')
  far : (Value.slice A9 n9 c9).ownBlock ≠ some w2.heap.size
  bks : Bks wr w2.heap.size 5 gs (ms.take J)
  apart : ∀ k ∈ gs, (Value.slice A9 n9 c9).ownBlock ≠ some k
  own : wr.ownsRow w2.heap.size 25 1 v gs.length (rows gs (ms.take J))
  apart2 : ∀ b, (Value.slice A9 n9 c9).ownBlock = some b → v.ownBlock ≠ some b
  le : J ≤ ms.length
  le2 : p' ≤ (enc (ms.drop J)).length

theorem om_lt {w : World} {base n : Nat} {v : Value} {l : List UInt8} (h : Om w base v n l) {b : Nat} (hb : v.ownBlock = some b) : base ≤ b ∧ b < w.heap.size := by
  rcases h.2 with ⟨rfl, _⟩ | ⟨g, off, cap, rfl, h1, h2, _⟩
  · simp [Value.ownBlock] at hb
  · have : g = b := by simpa [Value.ownBlock] using hb
    subst this
    exact ⟨h1, h2⟩
theorem bks_ne {w : World} {H g : Nat} {e t : TypeId} {cs : Array Value} (hg : Blk w g t cs) (hne : e ≠ t) : ∀ {gs : List Nat} {ls : List (List UInt8)}, Bks w H e gs ls → ∀ k ∈ gs, k ≠ g
  | [], [], _, k, hk => by cases hk
  | g' :: gs, _ :: _, h, k, hk => by
    rcases List.mem_cons.1 hk with rfl | hk
    · exact blk_ne h.2.1 hg hne
    · exact bks_ne hg hne h.2.2.2 k hk
  | [], _ :: _, h, _, _ => h.elim
  | _ :: _, [], h, _, _ => h.elim
section
variable {w2 wr w9 w10 : World} {ms new : List (List UInt8)} {J J2 p' p2 n9 c9 n' c' : Nat} {A9 A' : Option Addr} {gs gs' : List Nat} {v v' : Value}
theorem PcI.mid (h : PcI w2 ms wr J p' A9 n9 c9 gs v) (hk : Kept2 wr w9 w2.heap.size (Value.slice A9 n9 c9).ownBlock) : w9.ownsRow w2.heap.size 25 1 v gs.length (rows gs (ms.take J)) :=
  own_keep h.own fun b hb hlt => hk.block b hlt (by
    rintro rfl
    exact own_blk_ne h.own h.blk (by decide) hb) fun e => h.apart2 b e.symm hb
theorem PcI.step (h : PcI w2 ms wr J p' A9 n9 c9 gs v) (hk : Kept2 wr w9 w2.heap.size (Value.slice A9 n9 c9).ownBlock) (hb9 : RdB w9 w2.heap.size 8192 (.slice A' n' c') false)
    (ho9 : Om w9 w2.heap.size (.slice A' n' c') n' ((enc (ms.drop J2)).take p2))
    (hw : (Value.slice A' n' c').ownBlock = (Value.slice A9 n9 c9).ownBlock ∨ (Value.slice A' n' c').ownBlock = none ∨ ∃ b, (Value.slice A' n' c').ownBlock = some b ∧ wr.heap.size ≤ b)
    (hbk : Bks w9 wr.heap.size 5 gs' new) (hap : ∀ k ∈ gs', (Value.slice A' n' c').ownBlock ≠ some k) (hms : ms.take J2 = ms.take J ++ new) (hle : J2 ≤ ms.length) (hle2 : p2 ≤ (enc (ms.drop J2)).length)
    (hv' : w10.ownsRow w2.heap.size 25 1 v' (gs.length + gs'.length) (rows gs (ms.take J) ++ rows gs' new)) (hg : w9.grownBy w10 v.ownBlock) (hvb : v'.ownBlock = v.ownBlock ∨ v'.ownBlock = some w9.heap.size) :
    PcI w2 ms w10 J2 p2 A' n' c' (gs ++ gs') v' := by
  have hm := h.mid hk
  have hsr := h.below.size
  have h2r : w2.heap.size < wr.heap.size := h.blk.lt
  have hbks9 : Bks w9 w2.heap.size 5 (gs ++ gs') (ms.take J2) := by
    rw [hms]
    refine (h.bks.keep fun k hk' => hk.block k (h.bks.lt k hk').2 (bks_ne h.blk (by decide) h.bks k hk') fun e => h.apart k hk' e.symm).append (hbk.lower hsr) fun k hk1 k' hk2 => ?_
    have := (h.bks.lt k hk1).2
    have := (hbk.lt k' hk2).1
    omega
  have hvw : ∀ b, (Value.slice A' n' c').ownBlock = some b → v.ownBlock ≠ some b := by
    intro b hb hvb'
    rcases hw with e | e | ⟨b', e, hb'⟩
    · exact h.apart2 b (e ▸ hb) hvb'
    · rw [e] at hb; cases hb
    · rw [e] at hb
      obtain rfl : b' = b := by simpa using hb
      have := (own_lt h.own hvb').1
      omega
  refine ⟨?_, ?_, ?_, ?_, ?_, ?_, ?_, ?_, hle, hle2⟩
  · have h1 : Below w2.heap.size w2 w9 := h.below.trans ⟨hk.os, hk.tape, hk.output, hk.size, fun i hi => hk.block i (by omega) (by omega) fun e => by have := (om_lt h.om e.symm).1; omega⟩
    exact h1.grown hg (Nat.le_trans hsr hk.size) fun b hb => (own_lt h.own hb).2
  · exact hb9.grown hg (Ne.symm (own_blk_ne hm hb9 (by decide)))
  · exact om_keep ho9 hg.size fun b hb hlt => hg.block b hlt (Ne.symm (hvw b hb))
  · intro e
    rcases hw with e' | e' | ⟨b', e', hb'⟩
    · exact h.far (e' ▸ e)
    · rw [e'] at e; cases e
    · rw [e'] at e
      obtain rfl : b' = w2.heap.size := by simpa using e
      omega
  · exact hbks9.grown hg (Bks.apart hm (by decide) hbks9)
  · intro k hk' e
    rcases List.mem_append.1 hk' with hk1 | hk1
    · rcases hw with e' | e' | ⟨b', e', hb'⟩
      · exact h.apart k hk1 (e' ▸ e)
      · rw [e'] at e; cases e
      · rw [e'] at e
        obtain rfl : b' = k := by simpa using e
        have := (h.bks.lt b' hk1).2
        omega
    · exact hap k hk1 e
  · rw [hms, rows_append _ _ _ _ h.bks.len, List.length_append]
    exact hv'
  · intro b hb e
    rcases hvb with e' | e'
    · exact hvw b hb (e' ▸ e)
    · rw [e'] at e
      have := (om_lt ho9 hb).2
      obtain rfl : w9.heap.size = b := by simpa using e
      omega
end

set_option maxHeartbeats 8000000 in
set_option maxRecDepth 100000 in
theorem pieces_any (A A2 : Option Addr) (n c n2 c2 : Nat) (ms : List (List UInt8)) (zs : List Int) (w : World) (e1 e2 e3 e4 : Addr) (he : EnvG w e1 e2 e3 e4) (hr : Rl w w.heap.size A n ms) (hr2 : Ri w w.heap.size A2 n2 zs) :
    Calls Tryd.prog 3 #[.slice A n c, .slice A2 n2 c2] w fun e w' => e = .returned (.bool true) ∧ Below w.heap.size w w' := by
  have HE := Lib.hid he
  have h12 := he.room
  have HF := Lib.hid (first_any w e1 e2 e3 e4 he)
  have HR := Lib.hid hr
  have HZ := Lib.hid hr2
  have HL := Lib.hid hr.1
  clear he hr hr2
  by_cases hbig : 20 < n ∨ 100 < n2
  · rcases hbig with hbig | hbig
    · go_enter Tryd.func3, Tryd.ntmps3
      go_wp2_with fail
      refine HF.out.mono ?_
      rintro e w1 ⟨rfl, hb⟩
      have HB := Lib.hid hb
      clear hb
      go_wp2
      go_ret
      exact ⟨rfl, HB.out⟩
    · by_cases hbig0 : 20 < n
      all_goals
        go_enter Tryd.func3, Tryd.ntmps3
        go_wp2_with fail
        refine HF.out.mono ?_
        rintro e w1 ⟨rfl, hb⟩
        have HB := Lib.hid hb
        clear hb
        go_wp2
        go_ret
        exact ⟨rfl, HB.out⟩
  have hn : n ≤ 20 := by omega
  have hn2 : n2 ≤ 100 := by omega
  clear hbig
  go_enter Tryd.func3, Tryd.ntmps3
  go_wp2_with fail
  refine HF.out.mono ?_
  rintro e w1 ⟨rfl, hb⟩
  have HB1 := Lib.hid hb
  have hs1 := hb.size
  clear hb
  go_wp2_with fail
  go_loopw [6, 7] (fun v i wr => ∃ j : Nat, j ≤ n ∧ i = .int .i64 j ∧ ∃ A6 m6, v = .slice A6 m6 m6 ∧ Hid (Rd wr wr.heap.size A6 m6 (enc (ms.take j)) ∧ Below w.heap.size w wr ∧ ∀ m ∈ ms.take j, m.length ≤ 8192)) (fun _ i _ => n - (intOf i).toNat)
  case atStart => exact ⟨0, by omega, rfl, none, 0, rfl, Lib.hid ⟨(⟨rfl, fun h => absurd h (by omega)⟩ : Rd w1 w1.heap.size none 0 []), HB1.out, by simp⟩⟩
  case round =>
    obtain ⟨j, hj, rfl, A6, m6, rfl, HI⟩ := hrel
    obtain ⟨w2, rfl⟩ : ∃ w2 : World, w2 = wr := ⟨_, rfl⟩
    by_cases hjk : j < n
    · obtain ⟨ad, rfl, Aj, cj, q1, q2, _⟩ := (HR.out.below HI.out.2.1).at_ hjk
      have hsn := enc_take_snoc ms j (by rw [HL.out]; exact hjk)
      have htk : ms.take (j + 1) = ms.take j ++ [ms.getD j []] := by
        rw [List.take_add_one, List.getElem?_eq_getElem (by rw [HL.out]; exact hjk)]
        simp [List.getD, HL.out, hjk]
      obtain ⟨mj, hmj⟩ : ∃ mj, mj = ms.getD j [] := ⟨_, rfl⟩
      rw [← hmj] at q1 q2 hsn htk
      obtain ⟨nj, hnj⟩ : ∃ nj, nj = mj.length := ⟨_, rfl⟩
      rw [← hnj] at q1 q2 hsn
      have HQ := Lib.hid q2
      have HS := Lib.hid (And.intro hsn htk)
      clear q2 hsn htk hmj
      by_cases hlong : 8192 < nj
      · go_wp2
        go_ret
        exact ⟨rfl, HI.out.2.1⟩
      · have hm6 : m6 ≤ 1000000 := by
          have h1 := HI.out.1.len
          have h2 := enc_len 8192 (ms.take j) HI.out.2.2
          have h3 : (ms.take j).length ≤ j := List.length_take_le _ _
          have h4 := Nat.mul_le_mul_right (5 + 8192) h3
          omega
        have hs2 := HI.out.2.1.size
        go_wp2_with fail
        refine (put_any A6 Aj m6 m6 _ cj (enc (ms.take j)) mj w2 w2.heap.size w.heap.size (by exact HI.out.1) (Nat.le_refl _) (by exact hnj ▸ HQ.out) hs2 (by omega) (by omega)).mono ?_
        rintro e w3 ⟨rfl, ho3, hb3⟩
        have HI3 : Hid (Rd w3 w3.heap.size (some ⟨w2.heap.size, 0, none⟩) (m6 + 5 + mj.length) (enc (ms.take (j + 1))) ∧ Below w.heap.size w w3 ∧ ∀ m ∈ ms.take (j + 1), m.length ≤ 8192) := Lib.hid (by
          refine ⟨?_, HI.out.2.1.trans (hb3.mono hs2), ?_⟩
          · rw [HS.out.1, hnj]; exact ho3.rd
          · rw [HS.out.2]
            intro m hm
            rcases List.mem_append.1 hm with hm | hm
            · exact HI.out.2.2 m hm
            · obtain rfl : m = mj := by simpa using hm
              omega)
        clear ho3 hb3 HI HS HQ q1
        go_wp2
        exact ⟨⟨j + 1, by omega, by go_num, _, _, rfl, HI3⟩, by simp [intOf]; omega⟩
    · obtain rfl : j = n := by omega
      have hall : ms.take j = ms := List.take_of_length_le (by rw [HL.out]; omega)
      have HRA : Hid (Rd w2 w2.heap.size A6 m6 (enc ms)) := Lib.hid (by have := HI.out.1; rw [hall] at this; exact this)
      have HM : Hid (∀ m ∈ ms, m.length ≤ 8192) := Lib.hid (by have := HI.out.2.2; rw [hall] at this; exact this)
      have HB2 := Lib.hid HI.out.2.1
      have hs2 := HI.out.2.1.size
      have hm6 : m6 ≤ 1000000 := by
        have h1 := HRA.out.len
        have h2 := enc_len 8192 ms HM.out
        have h3 := HL.out
        rw [h3] at h2
        have h4 := Nat.mul_le_mul_right (5 + 8192) hn
        omega
      clear HI hall
      go_wp2_with fail
      refine (newReader_any 8192 _).mono ?_
      rintro e w3 ⟨rfl, hw3⟩
      have HR3 : Hid (RdB w3 w2.heap.size 8192 (.slice none 0 0) false) := Lib.hid (hw3 ▸ Blk.new w2 49 _)
      have HB23 : Hid (Below w2.heap.size w2 w3) := Lib.hid (hw3 ▸ (Below.refl _ _).alloc (Nat.le_refl _) _)
      have hs3 : w2.heap.size < w3.heap.size := HR3.out.lt
      clear hw3
      go_wp2_with fail
      go_loopw [9, 10, 11] (fun v p i wr => ∃ t : Nat, t ≤ n2 + 1 ∧ i = .int .i64 t ∧ ∃ a : Nat, a ≤ m6 ∧ p = .int .i64 a ∧ ∃ J p' A9 n9 c9 gs, Hid (PcI w2 ms wr J p' A9 n9 c9 gs v ∧ a = (enc (ms.take J)).length + p' ∧ (t = n2 + 1 → J = ms.length))) (fun _ _ i _ => n2 + 1 - (intOf i).toNat)
      case atStart =>
        refine ⟨0, by omega, rfl, 0, by omega, rfl, 0, 0, none, 0, 0, [], Lib.hid ⟨⟨HB23.out, HR3.out, Om.nil _ _, by simp [Value.ownBlock], trivial, by simp, ⟨rfl, .inl ⟨rfl, rfl⟩⟩, by simp [Value.ownBlock], by omega, by omega⟩, rfl, fun h => by omega⟩⟩
      case round =>
        obtain ⟨t, ht, rfl, a, ha, rfl, J, p', A9, n9, c9, gs, HI⟩ := hrel
        obtain ⟨w4, rfl⟩ : ∃ w4 : World, w4 = wr := ⟨_, rfl⟩
        by_cases htn : t = n2 + 1
        · subst htn
          go_wp2_with fail
          have hJn : J = ms.length := HI.out.2.2 (by first | rfl | trivial)
          have hn9 : n9 = 0 := by
            rw [← HI.out.1.om.len, hJn]
            simp [enc]
          subst hn9
          obtain ⟨Av, cv, hv, hcv⟩ := own_form HI.out.1.own
          have hgn : gs.length = j := by
            rw [HI.out.1.bks.len, List.length_take, hJn, HL.out]; omega
          rw [hgn] at hv hcv
          subst hv
          have HT : Hid (Rl w4 w4.heap.size Av j ms) := Lib.hid (by
            have h1 := HI.out.1.own
            have h2 := HI.out.1.bks
            rw [hJn, List.take_of_length_le (Nat.le_refl _)] at h1 h2
            rw [hgn] at h1
            exact rl_of_rows h1 h2)
          have HB4 := Lib.hid (HB2.out.trans (HI.out.1.below.mono hs2))
          refine (left_any w2.heap.size 8192 A9 0 c9 false w4 HI.out.1.blk).mono ?_
          rintro e w5 ⟨rfl, rfl⟩
          go_wp2_with fail
          refine (sameLists_any Av A j _ c ms w4 w4.heap.size w.heap.size HT.out (by exact HR.out.below HB4.out) (by omega)).mono ?_
          rintro e w5 ⟨rfl, k, rfl⟩
          go_wp2
          go_ret
          exact ⟨rfl, below_drewN HB4.out k⟩
        obtain ⟨q0, hq0⟩ : ∃ q0 : Nat, (m6 : Int) - (a : Int) = (q0 : Int) := ⟨m6 - a, by omega⟩
        obtain ⟨z, hz⟩ : ∃ z, z = zs.getD t 0 := ⟨_, rfl⟩
        obtain ⟨q, hq, hqt, hqm⟩ : ∃ q : Nat, q ≤ q0 ∧ (t = n2 → q = q0) ∧ (t < n2 → min (z % 32) (q0 : Int) = (q : Int)) := by
          by_cases h : t < n2
          · exact ⟨(min (z % 32) (q0 : Int)).toNat, by omega, fun e => by omega, fun _ => by omega⟩
          · exact ⟨q0, Nat.le_refl _, fun _ => rfl, fun e => by omega⟩
        have hem := HRA.out.len
        obtain ⟨A7, hr7, hs7⟩ := cut_sub (P := Tryd.prog) byteP (HRA.out.below HI.out.1.below) (k := a) (u := q) (by omega) (Nat.le_refl _) (a : Int) ((a : Int) + (q : Int)) rfl (by omega)
        have HR7 := Lib.hid hr7
        obtain ⟨J2, p2, g1, g2, g3, g4, g5, g6, g7⟩ := chw_step ms HM.out J p' q HI.out.1.le HI.out.1.le2 (by have := HI.out.2.1; omega)
        rw [← HI.out.2.1] at g4 g5 g7
        have HC := Lib.hid g5
        have HJ : Hid (ms.take J2 = ms.take J ++ (ms.drop J).take (J2 - J) ∧ J2 ≤ ms.length ∧ p2 ≤ (enc (ms.drop J2)).length ∧ a + q = (enc (ms.take J2)).length + p2 ∧ (t = n2 → J2 = ms.length)) := Lib.hid ⟨g6, g2, g3, g4.symm, fun e => g7 (by have := hqt e; omega)⟩
        clear hr7 g1 g2 g3 g4 g5 g6 g7 hem
        have hcase : t < n2 ∨ t = n2 := by omega
        have hqa : a + q ≤ m6 := by omega
        have hm6' : (m6 : Int) ≤ 1000000 := by omega
        rcases hcase with htl | htl
        · obtain ⟨ad, rfl, q1⟩ := ((HZ.out.below HB2.out).below (HI.out.1.below.mono hs2)).at_ htl
          rw [← hz] at q1
          have hbit := i64_and31 z
          have hmin := hqm htl
          clear hqm hz hqt
          go_wp2_with fail
          have HE4 := Lib.hid (HE.out.below (HB2.out.trans (HI.out.1.below.mono hs2)) h12)
          refine (feed_any w2.heap.size 8192 (.slice A9 n9 c9) n9 ((enc (ms.drop J)).take p') A7 q (m6 - a) w2.heap.size w2.heap.size (((enc ms).drop a).take q) w4 e1 e2 e3 e4 (by exact HE4.out) HI.out.1.blk HI.out.1.om HI.out.1.far HI.out.1.below.size (by omega) (by omega) (by exact HR7.out) HI.out.1.below.size (by
            have h1 := HI.out.1.om.len
            have h2 := HI.out.1.le2
            have h3 := HI.out.2.1
            rw [List.length_take] at h1
            omega)).mono ?_
          rw [HC.out]
          rintro e w9 ⟨hk9, hp9⟩
          obtain ⟨A', n', c', gs', outv, rfl, hb9, ho9, hw9, hbk9, hap9, hx9⟩ : ∃ A' n' c' gs' outv, e = .returned (.tuple #[outv, .nilIface]) ∧ RdB w9 w2.heap.size 8192 (.slice A' n' c') false ∧ Om w9 w2.heap.size (.slice A' n' c') n' ((enc (ms.drop J2)).take p2) ∧
              ((Value.slice A' n' c').ownBlock = (Value.slice A9 n9 c9).ownBlock ∨ (Value.slice A' n' c').ownBlock = none ∨ ∃ b, (Value.slice A' n' c').ownBlock = some b ∧ w4.heap.size ≤ b) ∧
              Bks w9 w4.heap.size 5 gs' ((ms.drop J).take (J2 - J)) ∧ (∀ k ∈ gs', (Value.slice A' n' c').ownBlock ≠ some k) ∧ w9.ownsRow w4.heap.size 25 1 outv gs'.length (rows gs' ((ms.drop J).take (J2 - J))) := by
            rcases hp9 with ⟨_, h⟩ | ⟨h, _⟩ | ⟨h, _⟩
            · exact h
            · cases h
            · cases h
          have hms := HJ.out.1
          have hle := HJ.out.2.1
          have hle2 := HJ.out.2.2.1
          have HP := fun w10 v' => Lib.hid (@PcI.step w2 w4 w9 w10 ms _ J J2 p' p2 n9 c9 n' c' A9 A' gs gs' _ v' HI.out.1 hk9 hb9 ho9 hw9 hbk9 hap9 hms hle hle2)
          have HMid := Lib.hid (HI.out.1.mid hk9)
          have HX9 := Lib.hid hx9
          have hl9 : gs'.length ≤ 20 ∧ gs.length ≤ 20 := by
            have h1 := hbk9.len
            have h2 := HI.out.1.bks.len
            rw [List.length_take, List.length_drop] at h1
            rw [List.length_take] at h2
            have := HL.out
            omega
          have hs9 : w2.heap.size ≤ w9.heap.size := Nat.le_trans HI.out.1.below.size hk9.size
          clear hk9 hp9 hb9 ho9 hw9 hbk9 hap9 hx9 hms hle hle2 HC HR7 hs7 HE4
          go_wp2_with (
            at_builtin
            refine wpList_app_own _ rowP rfl (.tmp 84) (.tmp 85) rfl w2.heap.size w4.heap.size _ gs.length (rows gs (ms.take J)) rfl HMid.out _ gs'.length (rows gs' ((ms.drop J).take (J2 - J))) rfl HX9.out (rows_one _ _) (by omega) hs9 ?_
            intro v10 w10 ho10 hg10 hv10
            have HI10 := Lib.hid ((HP w10 v10).out ho10 hg10 hv10)
            clear ho10 hg10 hv10 HMid HX9 HP)
          exact ⟨⟨t + 1, by omega, by go_num, a + q, by omega, by go_num, J2, p2, A', n', c', gs ++ gs', Lib.hid ⟨HI10.out, HJ.out.2.2.2.1, fun e => HJ.out.2.2.2.2 (by first | trivial | (clear HP; omega) | omega)⟩⟩, by simp [intOf] <;> omega⟩
        · obtain rfl := hqt htl
          subst htl
          clear hqm hz
          go_wp2_with fail
          have HE4 := Lib.hid (HE.out.below (HB2.out.trans (HI.out.1.below.mono hs2)) h12)
          refine (feed_any w2.heap.size 8192 (.slice A9 n9 c9) n9 ((enc (ms.drop J)).take p') A7 q (m6 - a) w2.heap.size w2.heap.size (((enc ms).drop a).take q) w4 e1 e2 e3 e4 (by exact HE4.out) HI.out.1.blk HI.out.1.om HI.out.1.far HI.out.1.below.size (by omega) (by omega) (by exact HR7.out) HI.out.1.below.size (by
            have h1 := HI.out.1.om.len
            have h2 := HI.out.1.le2
            have h3 := HI.out.2.1
            rw [List.length_take] at h1
            omega)).mono ?_
          rw [HC.out]
          rintro e w9 ⟨hk9, hp9⟩
          obtain ⟨A', n', c', gs', outv, rfl, hb9, ho9, hw9, hbk9, hap9, hx9⟩ : ∃ A' n' c' gs' outv, e = .returned (.tuple #[outv, .nilIface]) ∧ RdB w9 w2.heap.size 8192 (.slice A' n' c') false ∧ Om w9 w2.heap.size (.slice A' n' c') n' ((enc (ms.drop J2)).take p2) ∧
              ((Value.slice A' n' c').ownBlock = (Value.slice A9 n9 c9).ownBlock ∨ (Value.slice A' n' c').ownBlock = none ∨ ∃ b, (Value.slice A' n' c').ownBlock = some b ∧ w4.heap.size ≤ b) ∧
              Bks w9 w4.heap.size 5 gs' ((ms.drop J).take (J2 - J)) ∧ (∀ k ∈ gs', (Value.slice A' n' c').ownBlock ≠ some k) ∧ w9.ownsRow w4.heap.size 25 1 outv gs'.length (rows gs' ((ms.drop J).take (J2 - J))) := by
            rcases hp9 with ⟨_, h⟩ | ⟨h, _⟩ | ⟨h, _⟩
            · exact h
            · cases h
            · cases h
          have hms := HJ.out.1
          have hle := HJ.out.2.1
          have hle2 := HJ.out.2.2.1
          have HP := fun w10 v' => Lib.hid (@PcI.step w2 w4 w9 w10 ms _ J J2 p' p2 n9 c9 n' c' A9 A' gs gs' _ v' HI.out.1 hk9 hb9 ho9 hw9 hbk9 hap9 hms hle hle2)
          have HMid := Lib.hid (HI.out.1.mid hk9)
          have HX9 := Lib.hid hx9
          have hl9 : gs'.length ≤ 20 ∧ gs.length ≤ 20 := by
            have h1 := hbk9.len
            have h2 := HI.out.1.bks.len
            rw [List.length_take, List.length_drop] at h1
            rw [List.length_take] at h2
            have := HL.out
            omega
          have hs9 : w2.heap.size ≤ w9.heap.size := Nat.le_trans HI.out.1.below.size hk9.size
          clear hk9 hp9 hb9 ho9 hw9 hbk9 hap9 hx9 hms hle hle2 HC HR7 hs7 HE4
          go_wp2_with (
            at_builtin
            refine wpList_app_own _ rowP rfl (.tmp 84) (.tmp 85) rfl w2.heap.size w4.heap.size _ gs.length (rows gs (ms.take J)) rfl HMid.out _ gs'.length (rows gs' ((ms.drop J).take (J2 - J))) rfl HX9.out (rows_one _ _) (by omega) hs9 ?_
            intro v10 w10 ho10 hg10 hv10
            have HI10 := Lib.hid ((HP w10 v10).out ho10 hg10 hv10)
            clear ho10 hg10 hv10 HMid HX9 HP)
          exact ⟨⟨t + 1, by omega, by go_num, a + q, by omega, by go_num, J2, p2, A', n', c', gs ++ gs', Lib.hid ⟨HI10.out, HJ.out.2.2.2.1, fun e => HJ.out.2.2.2.2 (by first | trivial | (clear HP; omega) | omega)⟩⟩, by simp [intOf] <;> omega⟩
end Go.Proofs.YtlggoiablbmmlaaDoor
