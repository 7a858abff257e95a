/-
  Contracts: head.plain, head.Trailers.
-/
import Derived.Test.YtkikcinpgbgbdaaDoorTr
import Derived.Test.YtkikcinpgbgbdaaDoorHm
namespace Go.Proofs.YtkikcinpgbgbdaaDoor
open Go.RowKit Go.Own Go.Own.Hd Go.Own.Rn
theorem beq_dec (a b : List UInt8) : (a == b) = decide (a = b) := by rw [Bool.eq_iff_iff]; simp
def plain6 (b1 b2 b3 b4 b5 b6 b7 b8 : Bool) : Bool := if b1 || b2 || b3 || b4 || b5 then false else if b6 then b7 else b8
theorem plain_bits (h : HdrV) : plainB h = plain6 (h.name.toList == [99, 111, 110, 110, 101, 99, 116, 105, 111, 110]) (h.name.toList == [112, 114, 111, 120, 121, 45, 99, 111, 110, 110, 101, 99, 116, 105, 111, 110]) (h.name.toList == [107, 101, 101, 112, 45, 97, 108, 105, 118, 101])
    (h.name.toList == [116, 114, 97, 110, 115, 102, 101, 114, 45, 101, 110, 99, 111, 100, 105, 110, 103]) (h.name.toList == [117, 112, 103, 114, 97, 100, 101]) (h.name.toList == [116, 101]) (h.value.toList == [116, 114, 97, 105, 108, 101, 114, 115]) (nameB (tx h.name) && valueB (tx h.value)) := by
  simp only [beq_dec, Lib.toList_data, plain6, plainB, tx, conn, pconn, keepa, trenc, upgr, te, trails, Bool.or_eq_true, decide_eq_true_eq, List.cons_append, List.nil_append, or_assoc]
  split
  · rename_i h1
    exact if_pos h1
  · rename_i h1
    exact if_neg h1
set_option maxHeartbeats 2000000 in
set_option maxRecDepth 100000 in
theorem plain_any (h : HdrV) (w : World) {e1 e2 e3 : Addr} (he : EnvH w e1 e2 e3) (hn : h.name.size ≤ 1000000000) (hv : h.value.size ≤ 1000000000) :
    Calls Tryd.prog 25 #[.agg #[.string h.name, .string h.value, .bool h.never]] w (BelPost (plainB h) w) := by
  have HP := Lib.hid (plain_bits h)
  obtain ⟨n, v, nv⟩ := h
  simp only at HP hn hv ⊢
  have HN := Lib.hid (fun W (hb : Below w.heap.size w W) => name_any n W (he.below hb he.room) hn)
  have HVl := Lib.hid (fun W => value_any v W hv)
  clear he hn hv
  obtain ⟨nb, hnb⟩ : ∃ b, nameB n.data.toList = b := ⟨_, rfl⟩
  obtain ⟨vb, hvb⟩ : ∃ b, valueB v.data.toList = b := ⟨_, rfl⟩
  rw [hvb] at HVl
  have HPn := Lib.hid (show plainB ⟨n, v, nv⟩ = plain6 (n.toList == [99, 111, 110, 110, 101, 99, 116, 105, 111, 110]) (n.toList == [112, 114, 111, 120, 121, 45, 99, 111, 110, 110, 101, 99, 116, 105, 111, 110]) (n.toList == [107, 101, 101, 112, 45, 97, 108, 105, 118, 101])
    (n.toList == [116, 114, 97, 110, 115, 102, 101, 114, 45, 101, 110, 99, 111, 100, 105, 110, 103]) (n.toList == [117, 112, 103, 114, 97, 100, 101]) (n.toList == [116, 101]) (v.toList == [116, 114, 97, 105, 108, 101, 114, 115]) (nb && vb) by rw [← hnb, ← hvb]; exact HP.out)
  have HN2 := Lib.hid (fun W (hb : Below w.heap.size w W) => (show Calls Tryd.prog 34 #[.string n] W fun e w' => e = .returned (.bool nb) ∧ W = w' from by
    have := HN.out W hb
    unfold NamePost at this
    rw [hnb] at this
    exact this))
  clear HP HN hnb hvb
  obtain ⟨pb, hpb⟩ : ∃ pb, plainB ⟨n, v, nv⟩ = pb := ⟨_, rfl⟩
  rw [hpb] at HPn ⊢
  clear hpb
  obtain ⟨b1, hb1⟩ : ∃ b, (n.toList == [99, 111, 110, 110, 101, 99, 116, 105, 111, 110]) = b := ⟨_, rfl⟩
  obtain ⟨b2, hb2⟩ : ∃ b, (n.toList == [112, 114, 111, 120, 121, 45, 99, 111, 110, 110, 101, 99, 116, 105, 111, 110]) = b := ⟨_, rfl⟩
  obtain ⟨b3, hb3⟩ : ∃ b, (n.toList == [107, 101, 101, 112, 45, 97, 108, 105, 118, 101]) = b := ⟨_, rfl⟩
  obtain ⟨b4, hb4⟩ : ∃ b, (n.toList == [116, 114, 97, 110, 115, 102, 101, 114, 45, 101, 110, 99, 111, 100, 105, 110, 103]) = b := ⟨_, rfl⟩
  obtain ⟨b5, hb5⟩ : ∃ b, (n.toList == [117, 112, 103, 114, 97, 100, 101]) = b := ⟨_, rfl⟩
  obtain ⟨b6, hb6⟩ : ∃ b, (n.toList == [116, 101]) = b := ⟨_, rfl⟩
  obtain ⟨b7, hb7⟩ : ∃ b, (v.toList == [116, 114, 97, 105, 108, 101, 114, 115]) = b := ⟨_, rfl⟩
  rw [hb1, hb2, hb3, hb4, hb5, hb6, hb7] at HPn
  have g0 : Below w.heap.size w (w.alloc (.cells #[.string n, .string v, .bool nv] 26)) := (Below.refl _ _).alloc (Nat.le_refl _) _
  have G0 := Lib.hid g0
  clear g0
  rcases b1 with _ | _
  · rcases b2 with _ | _
    · rcases b3 with _ | _
      · rcases b4 with _ | _
        · rcases b5 with _ | _
          · rcases b6 with _ | _
            · rcases nb with _ | _
              · go_enter Tryd.func25, Tryd.ntmps25
                go_wp2_with ((with_reducible refine (HN2.out _ G0.out).mono ?_); rintro e w1 ⟨rfl, rfl⟩)
                go_ret
                exact ⟨by rw [HPn.out]; rfl, G0.out⟩
              · go_enter Tryd.func25, Tryd.ntmps25
                go_wp2_with (first
                  | ((with_reducible refine (HN2.out _ G0.out).mono ?_); rintro e w1 ⟨rfl, rfl⟩)
                  | ((with_reducible refine (HVl.out _).mono ?_); rintro e w1 ⟨rfl, g1⟩; have G1 := Lib.hid g1; clear g1))
                go_ret
                exact ⟨by rw [HPn.out]; rfl, G0.out.trans (G1.out.mono G0.out.size)⟩
            · go_enter Tryd.func25, Tryd.ntmps25
              go_wp2
              go_ret
              exact ⟨by rw [HPn.out]; rfl, G0.out⟩
          all_goals
            go_enter Tryd.func25, Tryd.ntmps25
            go_wp2
            go_ret
            exact ⟨by rw [HPn.out]; rfl, G0.out⟩
        all_goals
          go_enter Tryd.func25, Tryd.ntmps25
          go_wp2
          go_ret
          exact ⟨by rw [HPn.out]; rfl, G0.out⟩
      all_goals
        go_enter Tryd.func25, Tryd.ntmps25
        go_wp2
        go_ret
        exact ⟨by rw [HPn.out]; rfl, G0.out⟩
    all_goals
      go_enter Tryd.func25, Tryd.ntmps25
      go_wp2
      go_ret
      exact ⟨by rw [HPn.out]; rfl, G0.out⟩
  all_goals
    go_enter Tryd.func25, Tryd.ntmps25
    go_wp2
    go_ret
    exact ⟨by rw [HPn.out]; rfl, G0.out⟩
def errH (e1 : Addr) : Value := .iface 107 (.pointer (some e1))
/-- nil, or ErrHead. -/
def ErrPost (ok : Bool) (e1 : Addr) (w : World) (e : Ending) (w' : World) : Prop := e = .returned (bif ok then .nilIface else errH e1) ∧ Below w.heap.size w w'
/-- The texts of all headers are not too long. -/
def Szs (l : List HdrV) : Prop := ∀ h ∈ l, h.name.size ≤ 1000000000 ∧ h.value.size ≤ 1000000000
theorem Szs.at_ {l : List HdrV} (h : Szs l) (k : Nat) : (l.getD k ⟨⟨#[]⟩, ⟨#[]⟩, false⟩).name.size ≤ 1000000000 ∧ (l.getD k ⟨⟨#[]⟩, ⟨#[]⟩, false⟩).value.size ≤ 1000000000 := by
  rw [List.getD]
  rcases hk : l[k]? with _ | x
  · exact ⟨by decide, by decide⟩
  · exact h x (List.mem_of_getElem? hk)
theorem all_take_more {α : Type} (l : List α) (d : α) (p : α → Bool) (k : Nat) (hk : k < l.length) (h : (l.take k).all p = true) (hp : p (l.getD k d) = true) : (l.take (k + 1)).all p = true := by
  rw [List.take_succ_eq_append_getElem hk, List.all_append, h]
  have : l.getD k d = l[k] := by simp [List.getD, hk]
  rw [← this]
  simp only [List.all_cons, List.all_nil, hp, Bool.and_true, Bool.true_and]
theorem all_not_at {α : Type} (l : List α) (d : α) (p : α → Bool) (k : Nat) (hk : k < l.length) (hp : p (l.getD k d) = false) : l.all p = false := by
  rw [Bool.eq_false_iff]
  intro h
  have := List.all_eq_true.1 h (l[k]) (List.getElem_mem hk)
  have e : l.getD k d = l[k] := by simp [List.getD, hk]
  rw [e] at hp
  rw [hp] at this
  cases this
set_option maxHeartbeats 1000000 in
set_option maxRecDepth 100000 in
theorem trailers_any (A : Option Addr) (n c : Nat) (l : List HdrV) (w : World) {e1 e2 e3 : Addr} (he : EnvH w e1 e2 e3) (hn : n ≤ 1000000000) (h1 : Hr w A n l) (hz : Szs l) :
    Calls Tryd.prog 11 #[.slice A n c] w (ErrPost (l.all plainB) e1 w) := by
  have H1 := Lib.hid h1
  have HE := Lib.hid he
  have HZ := Lib.hid hz
  have HL := Lib.hid h1.1
  clear h1 he hz
  go_enter Tryd.func11, Tryd.ntmps11
  go_wp2
  go_loopw [7] (fun i wr => ∃ k : Nat, k ≤ n ∧ i = .int .i64 (k : Int) ∧ Hid (Below w.heap.size w wr ∧ (l.take k).all plainB = true)) (fun i _ => n - (intOf i).toNat)
  case atStart => exact ⟨0, by omega, rfl, Lib.hid ⟨Below.refl _ _, by simp⟩⟩
  case round =>
    obtain ⟨k, hk, rfl, hh⟩ := hrel
    by_cases hlt : k < n
    · obtain ⟨ad, rfl, a0, a1, a2⟩ := (H1.out.below hh.out.1).at_ hlt
      obtain ⟨s1, s2⟩ := HZ.out.at_ k
      have hal := HL.out
      obtain ⟨x, hx⟩ : ∃ x, l.getD k ⟨⟨#[]⟩, ⟨#[]⟩, false⟩ = x := ⟨_, rfl⟩
      rw [hx] at a0 a1 a2 s1 s2
      have HP := Lib.hid (fun W (hb : Below w.heap.size w W) => plain_any x W (HE.out.below hb HE.out.room) s1 s2)
      obtain ⟨b, hb⟩ : ∃ b, plainB x = b := ⟨_, rfl⟩
      rw [hb] at HP
      rw [← hx] at hb
      have HBB := Lib.hid hb
      obtain ⟨xn, xv, xb⟩ := x
      simp only at a0 a1 a2 HP
      clear hx hb s1 s2
      have i0 : (0 : Int) ≤ (k : Int) := by omega
      have i1 : (k : Int) < (n : Int) := by omega
      have hb1 := ((hh.out.1.alloc hh.out.1.size (.cells #[.string ⟨#[]⟩, .string ⟨#[]⟩, .bool false] 26)))
      have HB1 := Lib.hid (hh.out.1.alloc hh.out.1.size (.cells #[.string xn, .string xv, .bool xb] 26))
      clear hb1
      rcases b with _ | _
      · have HF := Lib.hid (all_not_at l _ plainB k (by omega) HBB.out)
        clear hal
        have hcell := HE.out.head
        have hce : wr.cell? ⟨0, 0, none⟩ = some (.iface 107 (.pointer (some e1))) := ((HE.out.below hh.out.1 HE.out.room).head)
        clear hcell hce
        go_wp2_with ((with_reducible refine (HP.out _ HB1.out).mono ?_); rintro e w2 ⟨rfl, g1⟩; have G1 := Lib.hid (HB1.out.trans (g1.mono HB1.out.size)); clear g1; have hce := (HE.out.below G1.out HE.out.room).head)
        go_ret
        exact ⟨by rw [HF.out]; rfl, G1.out⟩
      · have HN := Lib.hid (all_take_more l _ plainB k (by omega) hh.out.2 HBB.out)
        clear hal
        go_wp2_with ((with_reducible refine (HP.out _ HB1.out).mono ?_); rintro e w2 ⟨rfl, g1⟩; have G1 := Lib.hid (HB1.out.trans (g1.mono HB1.out.size)); clear g1)
        go_roundw
        case rel => exact ⟨k + 1, hlt, by go_num, Lib.hid ⟨G1.out, HN.out⟩⟩
        case measure => simp [intOf]; omega
    · obtain rfl : k = n := by omega
      go_wp2
      go_ret
      refine ⟨?_, hh.out.1⟩
      have := hh.out.2
      rw [List.take_of_length_le (by rw [HL.out]; exact Nat.le_refl _)] at this
      rw [this]
      rfl
end Go.Proofs.YtkikcinpgbgbdaaDoor
