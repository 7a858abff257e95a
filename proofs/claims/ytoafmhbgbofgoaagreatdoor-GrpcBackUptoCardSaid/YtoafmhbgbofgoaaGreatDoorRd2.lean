/-
  Contract: grpc.read, lists whose metadata was written.
-/
import Derived.Test.YtoafmhbgbofgoaaGreatDoorWr
namespace Go.Own.Gb
open Go Go.Own.Hd Go.Own.B64
theorem rdl_cons {y : HdrV} {l m : List HdrV} (h : Rdl (y :: l) m) : (namedB (tx y.name) = false ∧ Rdl l m) ∨ ∃ x m', y = wr1 x ∧ m = x :: m' ∧ goodB x = true ∧ Rdl l m' := by
  cases h with
  | skip x l m h1 h2 => exact .inl ⟨h1, h2⟩
  | keep x l m h1 h2 => exact .inr ⟨x, m, rfl, rfl, h1, h2⟩
theorem rdl_nil {m : List HdrV} (h : Rdl [] m) : m = [] := by cases h; rfl
end Go.Own.Gb
namespace Go.Proofs.YtoafmhbgbofgoaaGreatDoor
open Go.RowKit Go.Own Go.Own.Hd Go.Own.Gb Go.Own.B64 Go.WideShapes
attribute [local go_sem] Oper.semAt_some
/-- The names of all headers are short. -/
def Szn (l : List HdrV) : Prop := ∀ h ∈ l, h.name.size ≤ 100000
theorem Szn.at_ {l : List HdrV} (h : Szn l) (k : Nat) : (l.getD k ⟨⟨#[]⟩, ⟨#[]⟩, false⟩).name.size ≤ 100000 := by
  rw [List.getD]
  rcases hk : l[k]? with _ | x
  · exact (by decide)
  · exact h x (List.mem_of_getElem? hk)
def RdPost (m : List HdrV) (w : World) (e : Ending) (w' : World) : Prop :=
  Below w.heap.size w w' ∧ ∃ A c, e = .returned (.slice A m.length c) ∧ m.length ≤ c ∧ Hw w' w.heap.size (.slice A m.length c) m
theorem back_tx (s : ByteArray) : (⟨s.data.toList.toArray⟩ : ByteArray) = s := by obtain ⟨⟨l⟩⟩ := s; rfl
set_option maxHeartbeats 4000000 in
set_option maxRecDepth 100000 in
theorem read_any (A : Option Addr) (n c : Nat) (l m : List HdrV) (w : World) {e1 e2 e3 : Addr} (he : EnvH w e1 e2 e3) (hn : n ≤ 500) (hr : Hr w A n l) (hz : Szn l) (hzm : Szk m) (hd : Rdl l m) :
    Calls Tryz.prog 30 #[.slice A n c] w (RdPost m w) := by
  have HE := Lib.hid he
  have HR := Lib.hid hr
  have HZ := Lib.hid hz
  have HZM := Lib.hid hzm
  have HL := Lib.hid hr.1
  clear he hr hz hzm
  go_enter Tryz.func30, Tryz.ntmps30
  go_wp2
  go_loopw [3, 6, 7, 10] (fun v _ _ i wr => ∃ (k : Nat) (done rest : List HdrV), k ≤ n ∧ i = .int .i64 (k : Int) ∧ Hid (Below w.heap.size w wr ∧ Rdl (l.drop k) rest ∧ done ++ rest = m ∧ Hw wr w.heap.size v done ∧ done.length ≤ k)) (fun _ _ _ i _ => n - (intOf i).toNat)
  case atStart => exact ⟨0, [], m, by omega, rfl, Lib.hid ⟨Below.refl _ _, hd, rfl, Hw.nil _ _, Nat.le_refl _⟩⟩
  case round =>
    obtain ⟨k, done, rest, hk, rfl, hh⟩ := hrel
    clear hd
    by_cases hlt : k < n
    · obtain ⟨ad, rfl, a0, a1, a2⟩ := (HR.out.below hh.out.1).at_ hlt
      have s1 := HZ.out.at_ k
      obtain ⟨y, hy⟩ : ∃ y, l.getD k ⟨⟨#[]⟩, ⟨#[]⟩, false⟩ = y := ⟨_, rfl⟩
      have hdr : Rdl (y :: l.drop (k + 1)) rest := by
        have h := hh.out.2.1
        have hkl : k < l.length := by rw [HL.out]; exact hlt
        rw [List.drop_eq_getElem_cons hkl] at h
        have : l.getD k ⟨⟨#[]⟩, ⟨#[]⟩, false⟩ = l[k] := by simp [List.getD, hkl]
        rw [← this, hy] at h
        exact h
      rw [hy] at a0 a1 a2 s1
      clear hy
      have i0 : (0 : Int) ≤ (k : Int) := by omega
      have i1 : (k : Int) < (n : Int) := by omega
      have hn5 := hn
      have HS1 := Lib.hid s1
      clear s1
      have HNA := Lib.hid (fun W (hb : Below w.heap.size w W) => named_any y.name W (HE.out.below hb HE.out.room) (by have := HS1.out; omega))
      rcases rdl_cons hdr with ⟨hno, hdr2⟩ | ⟨x, m', rfl, rfl, hgd, hdr2⟩
      · obtain ⟨xn, xv, xb⟩ := y
        simp only at a0 a1 a2 HNA
        have hno : namedB xn.data.toList = false := hno
        rw [hno] at HNA
        have HD2 := Lib.hid hdr2
        clear hdr hdr2 hno
        have HB1 := Lib.hid (hh.out.1.alloc hh.out.1.size (.cells #[.string xn, .string xv, .bool xb] 67))
        go_wp2_with (go_at_call 49; refine (HNA.out _ HB1.out).mono ?_; rintro e w' ⟨rfl, rfl⟩)
        go_roundw
        case rel => exact ⟨k + 1, done, rest, hlt, by go_num, Lib.hid ⟨HB1.out, HD2.out, hh.out.2.2.1, hh.out.2.2.2.1.below ((Below.refl _ _).alloc (Nat.le_refl _) _), by have := hh.out.2.2.2.2; omega⟩⟩
        case measure => simp [intOf]; omega
      · have HD2 := Lib.hid hdr2
        have hnm := good_named hgd
        have hxz := HZM.out x (by rw [← hh.out.2.2.1]; simp)
        have HBI := Lib.hid (fun W => binary_any (wr1 x).name W (by have := HS1.out; omega))
        rw [wr1_name] at a0 HNA HBI HS1
        rw [wr1_never] at a2
        obtain ⟨xn, xv, xb⟩ := x
        simp only at a0 a2 HNA HBI HS1 hxz
        have hgd : metaB xn.data.toList xv.data.toList = true := hgd
        have hnm : namedB xn.data.toList = true := hnm
        have HME := Lib.hid (fun W (hb : Below w.heap.size w W) => meta_any xn xv W (HE.out.below hb HE.out.room) (by omega) (by omega))
        have HV1 := Lib.hid (show (wr1 ⟨xn, xv, xb⟩).value = if binB xn.data.toList then ⟨(b64 xv.data.toList).toArray⟩ else xv from by unfold wr1; show (if binB xn.data.toList = true then _ else _ : HdrV).value = _; cases binB xn.data.toList <;> rfl)
        rw [hgd] at HME
        rw [hnm] at HNA
        obtain ⟨bb, hbb⟩ : ∃ b, binB xn.data.toList = b := ⟨_, rfl⟩
        rw [hbb] at HBI HV1
        rw [HV1.out] at a1
        clear hbb hgd hnm hdr hdr2 HV1
        have HDN := Lib.hid (show (done ++ [⟨xn, xv, xb⟩]) ++ m' = m from by rw [← hh.out.2.2.1]; simp)
        rcases bb with _ | _
        · replace a1 : wr.cell? ⟨(ad.add (k * 3)).block, (ad.add (k * 3)).off + 1, none⟩ = some (.string xv) := a1
          have HB1 := Lib.hid (hh.out.1.alloc hh.out.1.size (.cells #[.string xn, .string xv, .bool xb] 67))
          have HK1 := Lib.hid (Blk.new wr 67 #[.string xn, .string xv, .bool xb])
          have HV1 := Lib.hid (show Hw (wr.alloc (.cells #[.string xn, .string xv, .bool xb] 67)) w.heap.size u3 done from hh.out.2.2.2.1.below ((Below.refl _ _).alloc (Nat.le_refl _) _))
          have HSz := Lib.hid (show wr.heap.size < (wr.alloc (.cells #[.string xn, .string xv, .bool xb] 67)).heap.size by simp)
          go_wp2_with (first
            | (go_at_call 49; refine (HNA.out _ HB1.out).mono ?_; rintro e w' ⟨rfl, rfl⟩)
            | (go_at_call 50; refine (HBI.out _).mono ?_; rintro e w' ⟨rfl, rfl⟩)
            | (go_at_call 23
               refine (HME.out _ HB1.out).mono ?_
               rintro e w2 ⟨rfl, g1⟩
               have G1 := Lib.hid (HB1.out.trans (g1.mono HB1.out.size))
               have hK2 := HK1.out.below g1 HSz.out
               have HV2 := Lib.hid (HV1.out.below g1)
               clear g1
               have c0 : w2.cell? ⟨wr.heap.size, 0, none⟩ = some (.string xn) := hK2.cell 0
               have c1 : w2.cell? ⟨wr.heap.size, 1, none⟩ = some (.string xv) := hK2.cell 1
               have c2 : w2.cell? ⟨wr.heap.size, 2, none⟩ = some (.bool xb) := hK2.cell 2
               clear hK2)
            | (at_builtin
               refine wpList_app_hg _ rfl (.tmp 37) (.tmp 39) rfl w.heap.size u3 done rfl (HV2.out.below ((Below.refl _ _).alloc (Nat.le_refl _) _)) (some ⟨w2.heap.size, 0, none⟩) 1 1 [⟨xn, xv, xb⟩] rfl (Hw.hr (hw_lit w2 [⟨xn, xv, xb⟩] (by simp))) (by have := hh.out.2.2.2.2; omega) (by have := G1.out.size; simp; omega) ?_
               intro v4 w4 hown hg _
               have HO4 := Lib.hid hown
               have HB4 := Lib.hid ((G1.out.alloc G1.out.size (.cells #[.string xn, .string xv, .bool xb] 67)).grown hg (by have := G1.out.size; simp; omega) (fun j e => (HV2.out.lt j e).1))
               clear hown hg))
          go_roundw
          case rel => exact ⟨k + 1, done ++ [⟨xn, xv, xb⟩], m', hlt, by go_num, Lib.hid ⟨HB4.out, HD2.out, HDN.out, HO4.out, by have := hh.out.2.2.2.2; simp; omega⟩⟩
          case measure => simp [intOf]; omega
        · replace a1 : wr.cell? ⟨(ad.add (k * 3)).block, (ad.add (k * 3)).off + 1, none⟩ = some (.string ⟨(b64 xv.data.toList).toArray⟩) := a1
          have hxl : xv.data.toList.length = xv.size := (Lib.size_eq xv).symm
          have hbl := b64_len xv.data.toList
          have HUB := Lib.hid (fun W => unbase64_any ⟨(b64 xv.data.toList).toArray⟩ xv.data.toList W (b64_mem _) (ub_b64 _) (by rw [Lib.size_eq]; show (b64 xv.data.toList).length % 4 ≠ 1; omega) (by rw [Lib.size_eq]; show (b64 xv.data.toList).length ≤ _; omega))
          obtain ⟨B, hB⟩ : ∃ B : ByteArray, (⟨(b64 xv.data.toList).toArray⟩ : ByteArray) = B := ⟨_, rfl⟩
          rw [hB] at HUB a1
          clear hB hbl
          have HB1 := Lib.hid (hh.out.1.alloc hh.out.1.size (.cells #[.string xn, .string B, .bool xb] 67))
          have HK1 := Lib.hid (Blk.new wr 67 #[.string xn, .string B, .bool xb])
          have HV1 := Lib.hid (show Hw (wr.alloc (.cells #[.string xn, .string B, .bool xb] 67)) w.heap.size u3 done from hh.out.2.2.2.1.below ((Below.refl _ _).alloc (Nat.le_refl _) _))
          have HSz := Lib.hid (show wr.heap.size < (wr.alloc (.cells #[.string xn, .string B, .bool xb] 67)).heap.size by simp)
          go_wp2_with (first
            | (go_at_call 49; refine (HNA.out _ HB1.out).mono ?_; rintro e w' ⟨rfl, rfl⟩)
            | (go_at_call 50; refine (HBI.out _).mono ?_; rintro e w' ⟨rfl, rfl⟩)
            | (go_at_call 60
               refine (HUB.out _).mono ?_
               rintro e w3 ⟨A3, c3, rfl, ho3, g3⟩
               have G3 := Lib.hid (HB1.out.trans (g3.mono HB1.out.size))
               have HV3 := Lib.hid (HV1.out.below g3)
               have hK3 := HK1.out.below g3 HSz.out
               have hcv3 := run_str (P := Tryz.prog) 53 9 5 Tryz.underlying53 Tryz.underlying5 Tryz.underlying9 (c := c3) ho3.rd
               rw [back_tx, hxl] at hcv3
               clear g3 ho3
               have d1 : w3.cell? ⟨wr.heap.size, 1, none⟩ = some (.string B) := hK3.cell 1
               have d3 : w3.frozen? ⟨wr.heap.size, 1, none⟩ = false := hK3.frozen 1
               have hK4 := hK3.put 1 (.string xv)
               have HK4 := Lib.hid (show Blk (w3.setCell ⟨wr.heap.size, 1, none⟩ (.string xv)) wr.heap.size 67 #[.string xn, .string xv, .bool xb] from hK4)
               have d0 : w3.cell? ⟨wr.heap.size, 0, none⟩ = some (.string xn) := hK3.cell 0
               clear hK3 hK4
               have HG3 := Lib.hid (show Below w.heap.size w (w3.setCell ⟨wr.heap.size, 1, none⟩ (.string xv)) from G3.out.grown (grown_setCell (World.grownBy.refl w3 (some wr.heap.size)) 1 _) G3.out.size (fun j e => by cases e; exact hh.out.1.size))
               have HV4 := Lib.hid (show Hw (w3.setCell ⟨wr.heap.size, 1, none⟩ (.string xv)) w.heap.size u3 done from HV3.out.grown (grown_setCell (World.grownBy.refl w3 (some wr.heap.size)) 1 _) (.inr (fun e => by have := (hh.out.2.2.2.1.lt _ e).2; omega))))
            | (go_at_call 23
               refine (HME.out _ HG3.out).mono ?_
               rintro e w2 ⟨rfl, g1⟩
               have G1 := Lib.hid (HG3.out.trans (g1.mono HG3.out.size))
               have hK2 := HK4.out.below g1 HK4.out.lt
               have HV2 := Lib.hid (HV4.out.below g1)
               clear g1
               have c0 : w2.cell? ⟨wr.heap.size, 0, none⟩ = some (.string xn) := hK2.cell 0
               have c1 : w2.cell? ⟨wr.heap.size, 1, none⟩ = some (.string xv) := hK2.cell 1
               have c2 : w2.cell? ⟨wr.heap.size, 2, none⟩ = some (.bool xb) := hK2.cell 2
               clear hK2)
            | (at_builtin
               refine wpList_app_hg _ rfl (.tmp 37) (.tmp 39) rfl w.heap.size u3 done rfl (HV2.out.below ((Below.refl _ _).alloc (Nat.le_refl _) _)) (some ⟨w2.heap.size, 0, none⟩) 1 1 [⟨xn, xv, xb⟩] rfl (Hw.hr (hw_lit w2 [⟨xn, xv, xb⟩] (by simp))) (by have := hh.out.2.2.2.2; omega) (by have := G1.out.size; simp; omega) ?_
               intro v4 w4 hown hg _
               have HO4 := Lib.hid hown
               have HB4 := Lib.hid ((G1.out.alloc G1.out.size (.cells #[.string xn, .string xv, .bool xb] 67)).grown hg (by have := G1.out.size; simp; omega) (fun j e => (HV2.out.lt j e).1))
               clear hown hg))
          go_roundw
          case rel => exact ⟨k + 1, done ++ [⟨xn, xv, xb⟩], m', hlt, by go_num, Lib.hid ⟨HB4.out, HD2.out, HDN.out, HO4.out, by have := hh.out.2.2.2.2; simp; omega⟩⟩
          case measure => simp [intOf]; omega
    · obtain rfl : k = n := by omega
      obtain ⟨Ao, co, hov, hoc, _⟩ := hh.out.2.2.2.1.form
      have hrn : done = m := by
        have h := hh.out.2.1
        rw [List.drop_eq_nil_of_le (by rw [HL.out]; exact Nat.le_refl _)] at h
        have h2 := hh.out.2.2.1
        rw [rdl_nil h, List.append_nil] at h2
        exact h2
      subst hrn
      subst hov
      have HB := Lib.hid hh.out.1
      have HO := Lib.hid hh.out.2.2.2.1
      have HOC := Lib.hid hoc
      clear hh hoc
      go_wp2
      go_ret
      exact ⟨HB.out, Ao, co, rfl, HOC.out, HO.out⟩
end Go.Proofs.YtoafmhbgbofgoaaGreatDoor
