/-
  Contract: grpc.write, any list of headers.
-/
import Derived.Test.YtoafmhbgbofgoaaGreatDoorGs
import Derived.Lib.ConvBytes
import Derived.Lib.AtoiErrMem
namespace Go.Proofs.YtoafmhbgbofgoaaGreatDoor
open Go.RowKit Go.Own Go.Own.Hd Go.Own.Gb Go.Own.B64 Go.WideShapes
attribute [local go_sem] Oper.semAt_some
/-- The texts of all headers are short. -/
def Szk (l : List HdrV) : Prop := ∀ h ∈ l, h.name.size ≤ 100000 ∧ h.value.size ≤ 100000
theorem Szk.at_ {l : List HdrV} (h : Szk l) (k : Nat) : (l.getD k ⟨⟨#[]⟩, ⟨#[]⟩, false⟩).name.size ≤ 100000 ∧ (l.getD k ⟨⟨#[]⟩, ⟨#[]⟩, false⟩).value.size ≤ 100000 := by
  rw [List.getD]
  rcases hk : l[k]? with _ | x
  · exact ⟨by decide, by decide⟩
  · exact h x (List.mem_of_getElem? hk)
theorem rd_bytes (w : World) (e : TypeId) (s : ByteArray) : Rd (Lib.bytesWorld w e s) (Lib.bytesWorld w e s).heap.size (some ⟨w.heap.size, 0, none⟩) s.size s.data.toList :=
  ⟨(Lib.size_eq s).symm, fun _ => ⟨_, rfl, by rw [Lib.bytesWorld_size]; exact Nat.lt_succ_self _, fun j hj => by
    rw [Addr.add_lit, Nat.zero_add]
    exact Lib.bytesWorld_cell w e s j hj⟩⟩
theorem grown_cap_le (w : World) (n : Nat) (e : TypeId) : n ≤ grownCap w n 0 e := grownCap_ge w n 0 e
theorem b64p_len (l : List UInt8) : (b64p l).length ≤ l.length * 2 + 4 := by
  unfold b64p fill
  rw [List.length_append, b64_len, List.length_replicate]
  omega
def WrPost (l : List HdrV) (w : World) (e : Ending) (w' : World) : Prop :=
  Below w.heap.size w w' ∧ ((l.all goodB = false ∧ e = .returned (.tuple #[.slice none 0 0, .bool false])) ∨ (l.all goodB = true ∧ ∃ A c, e = .returned (.tuple #[.slice A l.length c, .bool true]) ∧ l.length ≤ c ∧ Hw w' w.heap.size (.slice A l.length c) (l.map wr1)))
set_option maxHeartbeats 4000000 in
set_option maxRecDepth 100000 in
theorem write_any (A : Option Addr) (n c : Nat) (l : List HdrV) (w : World) {e1 e2 e3 : Addr} (he : EnvH w e1 e2 e3) (hn : n ≤ 500) (hr : Hr w A n l) (hz : Szk l) :
    Calls Tryz.prog 24 #[.slice A n c] w (WrPost l w) := by
  have HE := Lib.hid he
  have HR := Lib.hid hr
  have HZ := Lib.hid hz
  have HL := Lib.hid hr.1
  have hcv := fun (W : World) (s : ByteArray) => Lib.run_convert_string_bytes (P := Tryz.prog) W 9 53 5 s (u := .string) Tryz.underlying9 Tryz.underlying53 Tryz.underlying5
  clear he hr hz
  go_enter Tryz.func24, Tryz.ntmps24
  go_wp2
  go_loopw [4, 9] (fun v i wr => ∃ k : Nat, k ≤ n ∧ i = .int .i64 (k : Int) ∧ Hid (Below w.heap.size w wr ∧ (l.take k).all goodB = true ∧ Hw wr w.heap.size v ((l.take k).map wr1))) (fun _ i _ => n - (intOf i).toNat)
  case atStart => exact ⟨0, by omega, rfl, Lib.hid ⟨Below.refl _ _, by simp, Hw.nil _ _⟩⟩
  case round =>
    obtain ⟨k, hk, rfl, hh⟩ := hrel
    by_cases hlt : k < n
    · obtain ⟨ad, rfl, a0, a1, a2⟩ := (HR.out.below hh.out.1).at_ hlt
      obtain ⟨s1, s2⟩ := HZ.out.at_ k
      obtain ⟨x, hx⟩ : ∃ x, l.getD k ⟨⟨#[]⟩, ⟨#[]⟩, false⟩ = x := ⟨_, rfl⟩
      have hsm := all_succ_map l ⟨⟨#[]⟩, ⟨#[]⟩, false⟩ k (by rw [HL.out]; exact hlt)
      have hat := all_take_more l ⟨⟨#[]⟩, ⟨#[]⟩, false⟩ goodB k (by rw [HL.out]; exact hlt) hh.out.2.1
      have han := all_not_at l ⟨⟨#[]⟩, ⟨#[]⟩, false⟩ goodB k (by rw [HL.out]; exact hlt)
      rw [hx] at a0 a1 a2 s1 s2 hsm hat han
      have HSM := Lib.hid hsm
      have HAT := Lib.hid hat
      have HAN := Lib.hid han
      have HSZ := Lib.hid (And.intro s1 s2)
      clear hsm hat han hx s1 s2
      obtain ⟨xn, xv, xb⟩ := x
      simp only at a0 a1 a2
      have HM := Lib.hid (fun W (hb : Below w.heap.size w W) => meta_any xn xv W (HE.out.below hb HE.out.room) (by have := HSZ.out.1; simp only at this; omega) (by have := HSZ.out.2; simp only at this; omega))
      have HBI := Lib.hid (fun W => binary_any xn W (by have := HSZ.out.1; simp only at this; omega))
      have HG := Lib.hid (show goodB ⟨xn, xv, xb⟩ = metaB xn.data.toList xv.data.toList from rfl)
      have HW1 := Lib.hid (show wr1 ⟨xn, xv, xb⟩ = if binB xn.data.toList then ⟨xn, ⟨(b64 xv.data.toList).toArray⟩, xb⟩ else ⟨xn, xv, xb⟩ from rfl)
      have i0 : (0 : Int) ≤ (k : Int) := by omega
      have i1 : (k : Int) < (n : Int) := by omega
      have HB1 := Lib.hid (hh.out.1.alloc hh.out.1.size (.cells #[.string xn, .string xv, .bool xb] 67))
      have HK1 := Lib.hid (Blk.new wr 67 #[.string xn, .string xv, .bool xb])
      have HV1 := Lib.hid (show Hw (wr.alloc (.cells #[.string xn, .string xv, .bool xb] 67)) w.heap.size u4 ((l.take k).map wr1) from hh.out.2.2.below ((Below.refl _ _).alloc (Nat.le_refl _) _))
      have HSz := Lib.hid (show wr.heap.size < (wr.alloc (.cells #[.string xn, .string xv, .bool xb] 67)).heap.size by simp)
      obtain ⟨mb, hmb⟩ : ∃ b, metaB xn.data.toList xv.data.toList = b := ⟨_, rfl⟩
      obtain ⟨bb, hbb⟩ : ∃ b, binB xn.data.toList = b := ⟨_, rfl⟩
      rw [hmb] at HM HG
      rw [hbb] at HBI HW1
      clear hmb hbb
      have HTK := Lib.hid (show (l.take k).length = k from by rw [List.length_take, HL.out]; omega)
      have hn5 := hn
      rcases mb with _ | _
      · have HF := Lib.hid (HAN.out HG.out)
        go_wp2_with ((with_reducible refine (HM.out _ HB1.out).mono ?_); rintro e w2 ⟨rfl, g1⟩; have G1 := Lib.hid (HB1.out.trans (g1.mono HB1.out.size)); clear g1)
        go_ret2
        exact ⟨G1.out, .inl ⟨HF.out, rfl⟩⟩
      · have HN := Lib.hid (HAT.out HG.out)
        rcases bb with _ | _
        · go_wp2_with (first
            | (go_at_call 23
               (with_reducible refine (HM.out _ HB1.out).mono ?_)
               rintro e w2 ⟨rfl, g1⟩
               have G1 := Lib.hid (HB1.out.trans (g1.mono HB1.out.size))
               have hK2 := HK1.out.below g1 HSz.out
               have hV2 := HV1.out.below g1
               clear g1
               have c0 := hK2.cell 0
               have c1 := hK2.cell 1
               have c2 := hK2.cell 2
               have c0 : w2.cell? ⟨wr.heap.size, 0, none⟩ = some (.string xn) := c0
               have c1 : w2.cell? ⟨wr.heap.size, 1, none⟩ = some (.string xv) := c1
               have c2 : w2.cell? ⟨wr.heap.size, 2, none⟩ = some (.bool xb) := c2
               have HV2 := Lib.hid hV2
               clear hK2 hV2)
            | (go_at_call 50; refine (HBI.out _).mono ?_; rintro e w' ⟨rfl, rfl⟩)
            | (at_builtin
               refine wpList_app_hg _ rfl (.tmp 28) (.tmp 30) rfl w.heap.size u4 ((l.take k).map wr1) rfl (HV2.out.below ((Below.refl _ _).alloc (Nat.le_refl _) _)) (some ⟨w2.heap.size, 0, none⟩) 1 1 [⟨xn, xv, xb⟩] rfl (Hw.hr (hw_lit w2 [⟨xn, xv, xb⟩] (by simp))) (by rw [List.length_map, HTK.out]; omega) (by have := G1.out.size; simp; omega) ?_
               intro v4 w4 hown hg _
               have HO4 := Lib.hid hown
               have HB4 := Lib.hid ((G1.out.alloc G1.out.size (.cells #[.string xn, .string xv, .bool xb] 67)).grown hg (by have := G1.out.size; simp; omega) (fun j e => (HV2.out.lt j e).1))
               clear hown hg))
          go_roundw
          case rel => exact ⟨k + 1, hlt, by go_num, Lib.hid ⟨HB4.out, HN.out, by rw [HSM.out, HW1.out]; exact HO4.out⟩⟩
          case measure => simp [intOf]; omega
        · have HTR := Lib.hid (fun W => (show Calls Tryz.prog 52 #[.string ⟨(b64p xv.data.toList).toArray⟩, .string ⟨#[61]⟩] W fun e w' => e = .returned (.string ⟨(b64 xv.data.toList).toArray⟩) ∧ W = w' from by
            refine (Tryz.strings_TrimRight_one ⟨(b64p xv.data.toList).toArray⟩ 61 (by decide) W (by have := HSZ.out.2; simp only at this; have h2 := b64p_len xv.data.toList; rw [← Lib.size_eq] at h2; rw [Lib.size_eq]; show (b64p xv.data.toList).length ≤ _; omega)).mono fun e w' h => ⟨?_, h.2.symm⟩
            rw [h.1, trim_b64p]))
          have hx2 : xv.size ≤ 100000 := HSZ.out.2
          obtain ⟨B, hB⟩ : ∃ B : ByteArray, (⟨(b64 xv.data.toList).toArray⟩ : ByteArray) = B := ⟨_, rfl⟩
          rw [hB] at HTR HW1
          clear hB
          go_wp2_with (first
            | (go_at_call 23
               (with_reducible refine (HM.out _ HB1.out).mono ?_)
               rintro e w2 ⟨rfl, g1⟩
               have G1 := Lib.hid (HB1.out.trans (g1.mono HB1.out.size))
               have hK2 := HK1.out.below g1 HSz.out
               have HV2 := Lib.hid (HV1.out.below g1)
               have HS2 := Lib.hid (Nat.lt_of_lt_of_le HSz.out g1.size)
               clear g1
               have HK2 := Lib.hid hK2
               have c0 : w2.cell? ⟨wr.heap.size, 0, none⟩ = some (.string xn) := hK2.cell 0
               have c1 : w2.cell? ⟨wr.heap.size, 1, none⟩ = some (.string xv) := hK2.cell 1
               clear hK2)
            | (go_at_call 50; refine (HBI.out _).mono ?_; rintro e w' ⟨rfl, rfl⟩)
            | (go_at_call 53
               refine (base64_any _ xv.size _ xv.data.toList _ (rd_bytes w2 5 xv) (grown_cap_le _ _ _) (by omega)).mono ?_
               rintro e w3 ⟨rfl, g3⟩
               have g3 := (Lib.bytesWorld_below w2 5 xv).trans (g3.mono (Lib.bytesWorld_below w2 5 xv).size)
               have G3 := Lib.hid (G1.out.trans (g3.mono G1.out.size))
               have HV3 := Lib.hid (HV2.out.below g3)
               have hK3 := HK2.out.below g3 HS2.out
               have HK3 := Lib.hid hK3
               clear g3
               have d0 : w3.cell? ⟨wr.heap.size, 0, none⟩ = some (.string xn) := hK3.cell 0
               have d1 : w3.cell? ⟨wr.heap.size, 1, none⟩ = some (.string xv) := hK3.cell 1
               have d2 : w3.cell? ⟨wr.heap.size, 2, none⟩ = some (.bool xb) := hK3.cell 2
               have d3 : w3.frozen? ⟨wr.heap.size, 1, none⟩ = false := hK3.frozen 1
               clear hK3)
            | (go_at_call 52; refine (HTR.out _).mono ?_; rintro e w' ⟨rfl, rfl⟩)
            | (at_builtin
               have HG3 := Lib.hid (show Below w.heap.size w (w3.setCell ⟨wr.heap.size, 1, none⟩ (.string B)) from G3.out.grown (grown_setCell (World.grownBy.refl w3 (some wr.heap.size)) 1 _) G3.out.size (fun j e => by cases e; exact hh.out.1.size))
               have HV4 := Lib.hid (show Hw (w3.setCell ⟨wr.heap.size, 1, none⟩ (.string B)) w.heap.size u4 ((l.take k).map wr1) from HV3.out.grown (grown_setCell (World.grownBy.refl w3 (some wr.heap.size)) 1 _) (.inr (fun e => by have := (hh.out.2.2.lt _ e).2; omega)))
               refine wpList_app_hg _ rfl (.tmp 28) (.tmp 30) rfl w.heap.size u4 ((l.take k).map wr1) rfl (HV4.out.below ((Below.refl _ _).alloc (Nat.le_refl _) _)) (some ⟨w3.heap.size, 0, none⟩) 1 1 [⟨xn, B, xb⟩] rfl (by have h := Hw.hr (hw_lit (w3.setCell ⟨wr.heap.size, 1, none⟩ (.string B)) [⟨xn, B, xb⟩] (by simp)); rw [show (w3.setCell ⟨wr.heap.size, 1, none⟩ (.string B)).heap.size = w3.heap.size from by simp [World.setCell]] at h; exact h) (by rw [List.length_map, HTK.out]; omega) (by have := HG3.out.size; simp at this ⊢; omega) ?_
               intro v4 w4 hown hg _
               have HO4 := Lib.hid hown
               have HB4 := Lib.hid ((HG3.out.alloc HG3.out.size (.cells #[.string xn, .string B, .bool xb] 67)).grown hg (by have := HG3.out.size; simp at this ⊢; omega) (fun j e => (HV4.out.lt j e).1))
               clear hown hg))
          go_roundw
          case rel => exact ⟨k + 1, hlt, by go_num, Lib.hid ⟨HB4.out, HN.out, by rw [HSM.out, HW1.out]; exact HO4.out⟩⟩
          case measure => simp [intOf]; omega
    · obtain rfl : k = n := by omega
      obtain ⟨Ao, co, hov, hoc, _⟩ := hh.out.2.2.form
      have htk : l.take k = l := List.take_of_length_le (by rw [HL.out]; exact Nat.le_refl _)
      have HH := Lib.hid (And.intro hh.out htk)
      rw [htk, List.length_map] at hov hoc
      subst hov
      have HOC := Lib.hid hoc
      clear hh hoc htk
      go_wp2
      go_ret2
      have h := HH.out.1
      rw [HH.out.2] at h
      exact ⟨h.1, .inr ⟨h.2.1, Ao, co, rfl, HOC.out, h.2.2⟩⟩
end Go.Proofs.YtoafmhbgbofgoaaGreatDoor
