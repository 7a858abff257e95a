/-
  Contracts: grpc.named, binary, visible, Meta, for any texts.
-/
import Derived.Test.YtoafmhbgbofgoaaGreatDoorJb
import Derived.Test.YtoafmhbgbofgoaaGreatDoorB64
import Derived.Test.YtoafmhbgbofgoaaGreatDoorEnv
namespace Go.Own.Gb
open Go Go.Own.Hd
def ctS : List UInt8 := [99, 111, 110, 116, 101, 110, 116, 45, 116, 121, 112, 101]
def clS : List UInt8 := [99, 111, 110, 116, 101, 110, 116, 45, 108, 101, 110, 103, 116, 104]
def grpcS : List UInt8 := [103, 114, 112, 99, 45]
def binS : List UInt8 := [45, 98, 105, 110]
def bars : List (List UInt8) := [te, ctS, clS, conn, pconn, keepa, trenc, upgr]
/-- grpc.named -/
def namedB (l : List UInt8) : Bool := !bars.contains l && (nameB l && !Lib.hasPrefix l grpcS)
def binB (l : List UInt8) : Bool := Lib.hasSuffix l binS
def visC (c : UInt8) : Bool := decide (32 ≤ c.toNat ∧ c.toNat ≤ 126)
def visB (l : List UInt8) : Bool := l.all visC
/-- grpc.Meta -/
def metaB (n v : List UInt8) : Bool := namedB n && (binB n || (visB v && valueB v))
end Go.Own.Gb
namespace Go.Proofs.YtoafmhbgbofgoaaGreatDoor
open Go.RowKit Go.Own Go.Own.Hd Go.Own.Gb
theorem named_bits (n : ByteArray) : namedB n.data.toList = (!(n.toList == [116, 101] || (n.toList == [99, 111, 110, 116, 101, 110, 116, 45, 116, 121, 112, 101] || (n.toList == [99, 111, 110, 116, 101, 110, 116, 45, 108, 101, 110, 103, 116, 104] || (n.toList == [99, 111, 110, 110, 101, 99, 116, 105, 111, 110] || (n.toList == [112, 114, 111, 120, 121, 45, 99, 111, 110, 110, 101, 99, 116, 105, 111, 110] || (n.toList == [107, 101, 101, 112, 45, 97, 108, 105, 118, 101] || (n.toList == [116, 114, 97, 110, 115, 102, 101, 114, 45, 101, 110, 99, 111, 100, 105, 110, 103] || (n.toList == [117, 112, 103, 114, 97, 100, 101] || false)))))))) && (nameB n.data.toList && !Lib.hasPrefix n.data.toList grpcS)) := by
  rw [Lib.toList_data]
  rfl
set_option maxHeartbeats 2000000 in
set_option maxRecDepth 100000 in
theorem named_any (n : ByteArray) (w : World) {e1 e2 e3 : Addr} (he : EnvH w e1 e2 e3) (hn : n.size ≤ 1000000000) :
    Calls Tryz.prog 49 #[.string n] w fun e w' => e = .returned (.bool (namedB n.data.toList)) ∧ w = w' := by
  have hna : Calls Tryz.prog 73 #[.string n] w fun e w' => e = .returned (.bool (nameB n.data.toList)) ∧ w = w' := name_any n w he hn
  have hpa : Calls Tryz.prog 36 #[.string n, .string ⟨#[103, 114, 112, 99, 45]⟩] w fun e w' => e = .returned (.bool (Lib.hasPrefix n.data.toList grpcS)) ∧ w = w' := (Tryz.strings_HasPrefix n ⟨#[103, 114, 112, 99, 45]⟩ w).mono fun _ _ h => ⟨h.1, h.2.symm⟩
  have HB := Lib.hid (named_bits n)
  obtain ⟨nb, hnb⟩ : ∃ b, nameB n.data.toList = b := ⟨_, rfl⟩
  obtain ⟨pb, hpb⟩ : ∃ b, Lib.hasPrefix n.data.toList grpcS = b := ⟨_, rfl⟩
  rw [hnb] at hna
  rw [hpb] at hpa
  have HN := Lib.hid hna
  have HP := Lib.hid hpa
  have HE := Lib.hid (And.intro hnb hpb)
  clear hna hpa hnb hpb he
  obtain ⟨r, hr⟩ : ∃ r, namedB n.data.toList = r := ⟨_, rfl⟩
  have HR := Lib.hid hr
  rw [hr]
  clear hr
  go_enter Tryz.func49, Tryz.ntmps49
  go_wp2_with (first
    | (go_at_call 73; refine HN.out.mono ?_; rintro e w' ⟨rfl, rfl⟩)
    | (go_at_call 36; refine HP.out.mono ?_; rintro e w' ⟨rfl, rfl⟩))
  all_goals
    go_ret
    refine ⟨?_, rfl⟩
    have hb := HB.out
    rw [HR.out, HE.out.1, HE.out.2] at hb
    rw [hb]
    clear HB HR HN HP HE hb
    simp_all
theorem binary_any (n : ByteArray) (w : World) (hn : n.size ≤ 1000000000) :
    Calls Tryz.prog 50 #[.string n] w fun e w' => e = .returned (.bool (binB n.data.toList)) ∧ w = w' := by
  have hpa : Calls Tryz.prog 76 #[.string n, .string ⟨#[45, 98, 105, 110]⟩] w fun e w' => e = .returned (.bool (binB n.data.toList)) ∧ w = w' := (Tryz.strings_HasSuffix n ⟨#[45, 98, 105, 110]⟩ w (by omega)).mono fun _ _ h => ⟨h.1, h.2.symm⟩
  have HP := Lib.hid hpa
  clear hpa
  go_enter Tryz.func50, Tryz.ntmps50
  go_wp2_with (go_at_call 76; refine HP.out.mono ?_; rintro e w' ⟨rfl, rfl⟩)
  go_ret
  exact ⟨rfl, rfl⟩
set_option maxHeartbeats 2000000 in
set_option maxRecDepth 100000 in
theorem visible_any (t : ByteArray) (w : World) (hs : t.size ≤ 1000000000) :
    Calls Tryz.prog 51 #[.string t] w fun e w' => e = .returned (.bool (visB t.data.toList)) ∧ w = w' := by
  go_enter Tryz.func51, Tryz.ntmps51
  go_wp2
  go_loop [6] (fun i => ∃ k : Nat, k ≤ t.size ∧ i = .int .i64 k ∧ Hid ((t.data.toList.take k).all visC = true)) (fun i => t.size - (intOf i).toNat)
  case atStart => exact ⟨0, by omega, rfl, Lib.hid (by simp)⟩
  case round =>
    obtain ⟨k, hk, rfl, HA⟩ := hrel
    by_cases hlt : k < t.size
    · have hi0 := idx_str (P := Tryz.prog) Tryz.underlying9 t k (k : Int) rfl hlt
      obtain ⟨c, hc⟩ : ∃ c, t.data.toList.getD k 0 = c := ⟨_, rfl⟩
      rw [hc] at hi0
      have hl : k < t.data.toList.length := by rw [← Lib.size_eq]; exact hlt
      have HV := Lib.hid (show visC c = true → (t.data.toList.take (k + 1)).all visC = true from fun h => all_take_succ _ _ _ hl HA.out (by rw [hc]; exact h))
      have HW := Lib.hid (show visC c = false → visB t.data.toList = false from fun h => all_not _ _ k hl (by rw [hc]; exact h))
      have HD := Lib.hid (show visC c = decide (32 ≤ c.toNat ∧ c.toNat ≤ 126) from rfl)
      obtain ⟨x, hx⟩ : ∃ x, c.toNat = x := ⟨_, rfl⟩
      rw [hx] at hi0 HD
      clear hc hx hl
      by_cases h1 : x < 32
      · have h1d : ((x : Int) < 32) := by omega
        have HF := Lib.hid (HW.out (by rw [HD.out]; simp; omega))
        clear HV HW
        go_wp2
        go_ret
        exact ⟨by rw [HF.out]; rfl, rfl⟩
      · by_cases h2 : 126 < x
        · have h1d : ¬ ((x : Int) < 32) := by omega
          have h2d : ((126 : Int) < x) := by omega
          have HF := Lib.hid (HW.out (by rw [HD.out]; simp; omega))
          clear HV HW
          go_wp2
          go_ret
          exact ⟨by rw [HF.out]; rfl, rfl⟩
        · have h1d : ¬ ((x : Int) < 32) := by omega
          have h2d : ¬ ((126 : Int) < x) := by omega
          have HF := Lib.hid (HV.out (by rw [HD.out]; simp; omega))
          clear HV HW
          go_wp2
          go_round
          case rel => exact ⟨k + 1, by omega, by go_num, HF⟩
          case measure => simp [intOf]; omega
    · have hk2 : k = t.size := by omega
      have HF := Lib.hid (show visB t.data.toList = true from by
        have := HA.out
        rwa [List.take_of_length_le (by rw [← Lib.size_eq]; omega)] at this)
      clear hk2
      go_wp2
      go_ret
      exact ⟨by rw [HF.out]; rfl, rfl⟩
def MetaPost (b : Bool) (w : World) (e : Ending) (w' : World) : Prop := e = .returned (.bool b) ∧ Below w.heap.size w w'
set_option maxHeartbeats 2000000 in
set_option maxRecDepth 100000 in
theorem meta_any (n v : ByteArray) (w : World) {e1 e2 e3 : Addr} (he : EnvH w e1 e2 e3) (hn : n.size ≤ 1000000000) (hv : v.size ≤ 1000000000) :
    Calls Tryz.prog 23 #[.string n, .string v] w (MetaPost (metaB n.data.toList v.data.toList) w) := by
  have hna := named_any n w he hn
  have hba := binary_any n w hn
  have hva := visible_any v w hv
  have hha : Calls Tryz.prog 26 #[.string v] w fun e w' => e = .returned (.bool (valueB v.data.toList)) ∧ Below w.heap.size w w' := value_any v w hv
  have HM := Lib.hid (show metaB n.data.toList v.data.toList = (namedB n.data.toList && (binB n.data.toList || (visB v.data.toList && valueB v.data.toList))) from rfl)
  generalize metaB n.data.toList v.data.toList = m at HM ⊢
  generalize namedB n.data.toList = b1 at HM hna
  generalize binB n.data.toList = b2 at HM hba
  generalize visB v.data.toList = b3 at HM hva
  generalize valueB v.data.toList = b4 at HM hha
  have HN := Lib.hid hna
  have HB := Lib.hid hba
  have HV := Lib.hid hva
  have HH := Lib.hid hha
  clear hna hba hva hha he
  cases b1
  · go_enter Tryz.func23, Tryz.ntmps23
    go_wp2_with (go_at_call 49; refine HN.out.mono ?_; rintro e w' ⟨rfl, rfl⟩)
    go_ret
    exact ⟨by rw [HM.out]; rfl, Below.refl _ _⟩
  · cases b2
    · cases b3
      · go_enter Tryz.func23, Tryz.ntmps23
        go_wp2_with (first
          | (go_at_call 49; refine HN.out.mono ?_; rintro e w' ⟨rfl, rfl⟩)
          | (go_at_call 50; refine HB.out.mono ?_; rintro e w' ⟨rfl, rfl⟩)
          | (go_at_call 51; refine HV.out.mono ?_; rintro e w' ⟨rfl, rfl⟩))
        go_ret
        exact ⟨by rw [HM.out]; rfl, Below.refl _ _⟩
      · go_enter Tryz.func23, Tryz.ntmps23
        go_wp2_with (first
          | (go_at_call 49; refine HN.out.mono ?_; rintro e w' ⟨rfl, rfl⟩)
          | (go_at_call 50; refine HB.out.mono ?_; rintro e w' ⟨rfl, rfl⟩)
          | (go_at_call 51; refine HV.out.mono ?_; rintro e w' ⟨rfl, rfl⟩)
          | (go_at_call 26; refine HH.out.mono ?_; rintro e w1 ⟨rfl, g1⟩; have G1 := Lib.hid g1; clear g1))
        go_ret
        exact ⟨by rw [HM.out]; rfl, G1.out⟩
    · go_enter Tryz.func23, Tryz.ntmps23
      go_wp2_with (first
        | (go_at_call 49; refine HN.out.mono ?_; rintro e w' ⟨rfl, rfl⟩)
        | (go_at_call 50; refine HB.out.mono ?_; rintro e w' ⟨rfl, rfl⟩))
      go_ret
      exact ⟨by rw [HM.out]; rfl, Below.refl _ _⟩
end Go.Proofs.YtoafmhbgbofgoaaGreatDoor
