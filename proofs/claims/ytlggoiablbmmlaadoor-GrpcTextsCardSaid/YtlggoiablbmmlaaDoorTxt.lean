/-
  GrpcTexts: its walk.
-/
import Derived.Test.YtlggoiablbmmlaaDoorRpc
namespace Go.Proofs.YtlggoiablbmmlaaDoor
open Go.RowKit Go.Own Go.Own.Grpc

set_option maxHeartbeats 2000000 in
set_option maxRecDepth 100000 in
theorem texts_any (t : ByteArray) (w : World) (e1 e2 e3 e4 : Addr) (he : EnvG w e1 e2 e3 e4) (hsz : t.size ≤ 9223372036854775807) :
    Calls Tryd.prog 6 #[.string t] w fun e w' => e = .returned (.bool true) ∧ Below w.heap.size w w' := by
  have HE := Lib.hid he
  have h12 := he.room
  have HF := Lib.hid (first_any w e1 e2 e3 e4 he)
  clear he
  by_cases hbig : 8192 < t.size
  · go_enter Tryd.func6, Tryd.ntmps6
    go_wp2_with fail
    refine HF.out.mono ?_
    rintro e w1 ⟨rfl, hb⟩
    have HB := Lib.hid hb
    clear hb
    go_wp2
    go_ret
    exact ⟨rfl, HB.out⟩
  have hs2 : t.size ≤ 8192 := by omega
  clear hbig hsz
  obtain ⟨p, hp⟩ : ∃ p : ByteArray, p = ⟨(pct t.data.toList).toArray⟩ := ⟨_, rfl⟩
  have hpd : p.data.toList = pct t.data.toList := by rw [hp]
  have hpl : p.size ≤ 30000 := by
    have h1 := pct_len t.data.toList
    have h2 : p.size = (pct t.data.toList).length := by rw [hp]; simp [ByteArray.size]
    have h3 : t.data.toList.length = t.size := rfl
    omega
  have hplain : ∀ k, k < p.size → 32 ≤ (p.data.toList.getD k 0).toNat ∧ (p.data.toList.getD k 0).toNat ≤ 126 := by
    intro k hk
    refine pct_plain t.data.toList _ ?_
    rw [← hpd, List.getD, List.getElem?_eq_getElem (show k < p.data.toList.length from hk)]
    exact List.getElem_mem _
  have HPL := Lib.hid hplain
  have HPC := fun W e1' => Lib.hid (percent_any t W e1 e2 e3 e4 e1' (by omega))
  have HRP := fun W => Lib.hid (refPercent_any t W (by omega))
  have HUN := fun W e1' => Lib.hid (unpercent_any t W e1 e2 e3 e4 e1' (by omega))
  have HRU := fun W => Lib.hid (refUnpercent_any t W (by omega))
  have HUP := fun W e1' => Lib.hid (unpercent_any p W e1 e2 e3 e4 e1' (by omega))
  rw [← hp] at HPC HRP
  rw [hpd, unp_pct] at HUP
  have hback : (⟨t.data.toList.toArray⟩ : ByteArray) = t := by cases t; rfl
  rw [hback] at HUP
  generalize (⟨(unp t.data.toList).toArray⟩ : ByteArray) = u at *
  clear hp hpd hplain hback
  go_enter Tryd.func6, Tryd.ntmps6
  go_wp2_with fail
  refine HF.out.mono ?_
  rintro e w1 ⟨rfl, hb⟩
  have HB := Lib.hid hb
  clear hb
  go_wp2_with fail
  refine (HPC _ (by exact HE.out.below HB.out h12)).out.mono ?_
  rintro e w2 ⟨rfl, hb⟩
  have HB2 := Lib.hid (HB.out.trans (hb.mono HB.out.size))
  clear hb HB
  go_wp2_with fail
  go_loop [5] (fun i => ∃ k : Nat, k ≤ p.size ∧ i = .int .i64 k) (fun i => p.size - (intOf i).toNat)
  case atStart => exact ⟨0, by omega, rfl⟩
  case round =>
    obtain ⟨k, hk, rfl⟩ := hrel
    by_cases hlt : k < p.size
    · have hi0 := idx_str (P := Tryd.prog) Tryd.underlying9 p k (k : Int) rfl hlt
      obtain ⟨g1, g2⟩ := HPL.out k hlt
      generalize (p.data.toList.getD k 0).toNat = x at *
      go_wp2_with fail
      exact ⟨⟨k + 1, by omega, by go_num⟩, by simp [intOf]; omega⟩
    · go_wp2_with fail
      refine (HRP _).out.mono ?_
      rintro e w3 ⟨rfl, hb⟩
      have HB3 := Lib.hid (HB2.out.trans (hb.mono HB2.out.size))
      clear hb
      go_wp2_with fail
      refine (HUN _ (by exact HE.out.below HB3.out h12)).out.mono ?_
      rintro e w4 ⟨rfl, hb⟩
      have HB4 := Lib.hid (HB3.out.trans (hb.mono HB3.out.size))
      clear hb
      go_wp2_with fail
      refine (HRU _).out.mono ?_
      rintro e w5 ⟨rfl, hb⟩
      have HB5 := Lib.hid (HB4.out.trans (hb.mono HB4.out.size))
      clear hb
      go_wp2_with fail
      refine (HUP _ (by exact HE.out.below HB5.out h12)).out.mono ?_
      rintro e w6 ⟨rfl, hb⟩
      have HB6 := Lib.hid (HB5.out.trans (hb.mono HB5.out.size))
      clear hb
      go_wp2
      go_ret
      exact ⟨rfl, HB6.out⟩
end Go.Proofs.YtlggoiablbmmlaaDoor
