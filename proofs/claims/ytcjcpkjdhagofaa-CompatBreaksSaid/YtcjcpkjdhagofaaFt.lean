/-
  The law's first.
-/
import Derived.Test.YtcjcpkjdhagofaaAd
import Derived.Test.YtcjcpkjdhagofaaFr
namespace Go.Own.Cm
open Go Go.RowKit Go.Own
def oneF (kd : Int) : FldV := ⟨⟨#[97]⟩, ⟨#[97]⟩, ⟨#[]⟩, ⟨#[]⟩, 1, kd, 0, false, false, false⟩
def oneS (q : Nat) (kd : Int) : SchV := ⟨some ⟨q + 1, 0, none⟩, 1, 1, [⟨⟨#[65]⟩, some ⟨q, 0, none⟩, 1, 1, [oneF kd]⟩], none, 0, 0, [], none, 0, 0, []⟩
def noS : SchV := ⟨none, 0, 0, [], none, 0, 0, [], none, 0, 0, []⟩
theorem oneS_z (q : Nat) (kd : Int) (h : 0 ≤ kd ∧ kd ≤ 15) : SchZ (oneS q kd) where
  m := by simp [oneS]
  f := by simp [oneS]
  e := by simp [oneS]
  v := by simp [oneS]
  u := by simp [oneS]
  t := by simp [oneS]
  k := by
    intro m hm f hf
    simp only [oneS, List.mem_singleton] at hm
    subst hm
    simp only [List.mem_singleton] at hf
    subst hf
    exact ⟨h, by simp [oneF]⟩
theorem noS_z : SchZ noS := ⟨by simp [noS], by simp [noS], by simp [noS], by simp [noS], by simp [noS], by simp [noS], by simp [noS]⟩
theorem noS_r (w : World) (B : Nat) : SchR w B noS := ⟨RS.nil, by simp [noS], RS.nil, by simp [noS], RS.nil, by simp [noS]⟩
theorem sameT_self (a : ByteArray) : sameT a a = true := by unfold sameT; exact beq_self_eq_true _
theorem breaks_one (q q' : Nat) : breaksOf (oneS q 1) (oneS q' 2) = [⟨⟨#[65]⟩, ⟨#[97]⟩, 1, 2, true⟩] := by
  simp [breaksOf, oneS, oneF, msgBrk, msgAt, sameT_self, fldBrk, fldAt, twoBrk, whyL, wireWhy, jsonWhy, unlikeB, alikeB, grp, saidK, labelB, refW, refJ, oneB, nameB]
theorem breaks_no (q : Nat) : breaksOf (oneS q 1) noS = bothL ⟨⟨#[65]⟩, empT, 0, 1, false⟩ := by
  simp [breaksOf, oneS, noS, msgBrk, msgAt]
end Go.Own.Cm
namespace Go.Proofs.Ytcjcpkjdhagofaa
open Go.RowKit Go.Own Go.Own.Cm Go.Shelf
attribute [local go_sem] Oper.semAt_some
theorem sch_new (w : World) (q : Nat) (hq : w.heap.size = q) (kd : Int) (W : World)
    (hW : W = ((w.alloc (.cells #[.string ⟨#[97]⟩, .string ⟨#[97]⟩, .string ⟨#[]⟩, .string ⟨#[]⟩, .int .i64 1, .int .i64 kd, .int .i64 0, .bool false, .bool false, .bool false] 42)).alloc (.cells #[.string ⟨#[65]⟩, .slice (some ⟨q, 0, none⟩) 1 1] 45)).alloc (.cells #[.slice (some ⟨q + 1, 0, none⟩) 1 1, .slice none 0 0, .slice none 0 0] 26)) :
    SchR W (q + 2) (oneS q kd) ∧ Blk W (q + 2) 26 #[.slice (some ⟨q + 1, 0, none⟩) 1 1, .slice none 0 0, .slice none 0 0] ∧ Below q w W := by
  subst hW
  subst hq
  have h1 := (Ew.lit (k := 10) FldV.cells 42 (fun _ => rfl) w [oneF kd] (by simp)).rs (fun _ => rfl) (by omega)
  have e1 : (w.alloc (.cells (flat FldV.cells [oneF kd]).toArray 42)) = (w.alloc (.cells #[.string ⟨#[97]⟩, .string ⟨#[97]⟩, .string ⟨#[]⟩, .string ⟨#[]⟩, .int .i64 1, .int .i64 kd, .int .i64 0, .bool false, .bool false, .bool false] 42)) := rfl
  rw [e1] at h1
  have z1 : (w.alloc (.cells #[.string ⟨#[97]⟩, .string ⟨#[97]⟩, .string ⟨#[]⟩, .string ⟨#[]⟩, .int .i64 1, .int .i64 kd, .int .i64 0, .bool false, .bool false, .bool false] 42)).heap.size = w.heap.size + 1 := by simp
  have b0 : Below w.heap.size w (w.alloc (.cells #[.string ⟨#[97]⟩, .string ⟨#[97]⟩, .string ⟨#[]⟩, .string ⟨#[]⟩, .int .i64 1, .int .i64 kd, .int .i64 0, .bool false, .bool false, .bool false] 42)) := (Below.refl _ _).alloc (Nat.le_refl _) _
  clear e1
  generalize (w.alloc (.cells #[.string ⟨#[97]⟩, .string ⟨#[97]⟩, .string ⟨#[]⟩, .string ⟨#[]⟩, .int .i64 1, .int .i64 kd, .int .i64 0, .bool false, .bool false, .bool false] 42)) = w1 at *
  have h2 := (Ew.lit (k := 2) MsgV.cells 45 (fun _ => rfl) w1 [⟨⟨#[65]⟩, some ⟨w.heap.size, 0, none⟩, 1, 1, [oneF kd]⟩] (by simp)).rs (fun _ => rfl) (by omega)
  have e2 : (w1.alloc (.cells (flat MsgV.cells [⟨⟨#[65]⟩, some ⟨w.heap.size, 0, none⟩, 1, 1, [oneF kd]⟩]).toArray 45)) = (w1.alloc (.cells #[.string ⟨#[65]⟩, .slice (some ⟨w.heap.size, 0, none⟩) 1 1] 45)) := rfl
  rw [e2] at h2
  have z2 : (w1.alloc (.cells #[.string ⟨#[65]⟩, .slice (some ⟨w.heap.size, 0, none⟩) 1 1] 45)).heap.size = w.heap.size + 2 := by simp [z1]
  have b1 : Below w1.heap.size w1 (w1.alloc (.cells #[.string ⟨#[65]⟩, .slice (some ⟨w.heap.size, 0, none⟩) 1 1] 45)) := (Below.refl _ _).alloc (Nat.le_refl _) _
  clear e2
  generalize (w1.alloc (.cells #[.string ⟨#[65]⟩, .slice (some ⟨w.heap.size, 0, none⟩) 1 1] 45)) = w2 at *
  have b2 : Below w2.heap.size w2 (w2.alloc (.cells #[.slice (some ⟨w.heap.size + 1, 0, none⟩) 1 1, .slice none 0 0, .slice none 0 0] 26)) := (Below.refl _ _).alloc (Nat.le_refl _) _
  have h3 := Blk.new w2 26 #[.slice (some ⟨w.heap.size + 1, 0, none⟩) 1 1, .slice none 0 0, .slice none 0 0]
  generalize (w2.alloc (.cells #[.slice (some ⟨w.heap.size + 1, 0, none⟩) 1 1, .slice none 0 0, .slice none 0 0] 26)) = w3 at *
  rw [z1] at h1 h2 b1
  rw [z2] at h2 h3 b2
  have h1' : RS FldV.cells 10 w3 (w.heap.size + 1) (some ⟨w.heap.size, 0, none⟩) 1 [oneF kd] := (h1.below b1).below (b2.mono (by omega))
  have h2' : RS MsgV.cells 2 w3 (w.heap.size + 2) (some ⟨w.heap.size + 1, 0, none⟩) 1 [⟨⟨#[65]⟩, some ⟨w.heap.size, 0, none⟩, 1, 1, [oneF kd]⟩] := h2.below b2
  refine ⟨⟨h2', ?_, RS.nil, by simp [oneS], RS.nil, by simp [oneS]⟩, h3, (b0.trans (b1.mono (by omega))).trans (b2.mono (by omega))⟩
  intro m hm
  simp only [oneS, List.mem_singleton] at hm
  subst hm
  exact h1'.more (by omega)
set_option maxHeartbeats 8000000 in
set_option maxRecDepth 100000 in
theorem first_any (w : World) : Calls Try.prog 4 #[] w (AskP true w) := by
  go_enter Try.func4, Try.ntmps4
  go_upto_region 4 with (fail)
  have hb2 : Below w.heap.size w ((w.alloc (.cells #[.string ⟨#[97]⟩, .string ⟨#[97]⟩, .string ⟨#[]⟩, .string ⟨#[]⟩, .int .i64 1, .int .i64 1, .int .i64 0, .bool false, .bool false, .bool false] 42)).alloc (.cells #[.string ⟨#[97]⟩, .string ⟨#[97]⟩, .string ⟨#[]⟩, .string ⟨#[]⟩, .int .i64 1, .int .i64 2, .int .i64 0, .bool false, .bool false, .bool false] 42)) := ((Below.refl _ _).alloc (Nat.le_refl _) _).alloc (by simp) _
  have hz2 : ((w.alloc (.cells #[.string ⟨#[97]⟩, .string ⟨#[97]⟩, .string ⟨#[]⟩, .string ⟨#[]⟩, .int .i64 1, .int .i64 1, .int .i64 0, .bool false, .bool false, .bool false] 42)).alloc (.cells #[.string ⟨#[97]⟩, .string ⟨#[97]⟩, .string ⟨#[]⟩, .string ⟨#[]⟩, .int .i64 1, .int .i64 2, .int .i64 0, .bool false, .bool false, .bool false] 42)).heap.size = w.heap.size + 1 + 1 := by simp
  obtain ⟨hrx, hkx, hbx⟩ := sch_new _ _ hz2 1 _ rfl
  obtain ⟨hry, hky, hby⟩ := sch_new (((((w.alloc (.cells #[.string ⟨#[97]⟩, .string ⟨#[97]⟩, .string ⟨#[]⟩, .string ⟨#[]⟩, .int .i64 1, .int .i64 1, .int .i64 0, .bool false, .bool false, .bool false] 42)).alloc (.cells #[.string ⟨#[97]⟩, .string ⟨#[97]⟩, .string ⟨#[]⟩, .string ⟨#[]⟩, .int .i64 1, .int .i64 2, .int .i64 0, .bool false, .bool false, .bool false] 42)).alloc (.cells #[.string ⟨#[97]⟩, .string ⟨#[97]⟩, .string ⟨#[]⟩, .string ⟨#[]⟩, .int .i64 1, .int .i64 1, .int .i64 0, .bool false, .bool false, .bool false] 42)).alloc (.cells #[.string ⟨#[65]⟩, .slice (some ⟨w.heap.size + 1 + 1, 0, none⟩) 1 1] 45)).alloc (.cells #[.slice (some ⟨w.heap.size + 1 + 1 + 1, 0, none⟩) 1 1, .slice none 0 0, .slice none 0 0] 26)) (w.heap.size + 1 + 1 + 1 + 1 + 1) (by simp) 2 _ rfl
  have hrx' := hrx.below (hby.mono (by omega))
  have hkx' := hkx.below (hby.mono (Nat.le_refl _)) (by omega)
  have hbb := (hb2.trans (hbx.mono (by omega))).trans (hby.mono (by omega))
  have HRX := Lib.hid hrx'
  have HRY := Lib.hid hry
  have HKX := Lib.hid hkx'
  have HKY := Lib.hid hky
  have HBB := Lib.hid hbb
  clear hrx hkx hbx hry hky hby hrx' hkx' hbb hb2 hz2
  go_upto_region 6 with (fail)
  generalize World.alloc _ _ = W at *
  have HKX2 : Hid (Blk W (w.heap.size + 1 + 1 + 1 + 1) 26 #[.slice (some ⟨w.heap.size + 1 + 1 + 1, 0, none⟩) 1 1, .slice none 0 0, .slice none 0 0]) := HKX
  have HKY2 : Hid (Blk W (w.heap.size + 1 + 1 + 1 + 1 + 1 + 1 + 1) 26 #[.slice (some ⟨w.heap.size + 1 + 1 + 1 + 1 + 1 + 1, 0, none⟩) 1 1, .slice none 0 0, .slice none 0 0]) := HKY
  have HCL : Hid (∀ W', Below W.heap.size W W' → (W'.cell? ⟨w.heap.size + 1 + 1 + 1 + 1, 0, none⟩ = some (.slice (some ⟨w.heap.size + 1 + 1 + 1, 0, none⟩) 1 1) ∧ W'.cell? ⟨w.heap.size + 1 + 1 + 1 + 1, 1, none⟩ = some (.slice none 0 0) ∧ W'.cell? ⟨w.heap.size + 1 + 1 + 1 + 1, 2, none⟩ = some (.slice none 0 0)) ∧ (W'.cell? ⟨w.heap.size + 1 + 1 + 1 + 1 + 1 + 1 + 1, 0, none⟩ = some (.slice (some ⟨w.heap.size + 1 + 1 + 1 + 1 + 1 + 1, 0, none⟩) 1 1) ∧ W'.cell? ⟨w.heap.size + 1 + 1 + 1 + 1 + 1 + 1 + 1, 1, none⟩ = some (.slice none 0 0) ∧ W'.cell? ⟨w.heap.size + 1 + 1 + 1 + 1 + 1 + 1 + 1, 2, none⟩ = some (.slice none 0 0))) := Lib.hid fun W' hb =>
    ⟨⟨(HKX2.out.below hb HKX2.out.lt).cell 0, (HKX2.out.below hb HKX2.out.lt).cell 1, (HKX2.out.below hb HKX2.out.lt).cell 2⟩, ⟨(HKY2.out.below hb HKY2.out.lt).cell 0, (HKY2.out.below hb HKY2.out.lt).cell 1, (HKY2.out.below hb HKY2.out.lt).cell 2⟩⟩
  have hlt := HKY2.out.lt
  have hrx : SchR W W.heap.size (oneS (w.heap.size + 1 + 1) 1) := HRX.out.more (by omega)
  have hry : SchR W W.heap.size (oneS (w.heap.size + 1 + 1 + 1 + 1 + 1) 2) := HRY.out.more (by omega)
  have zx := oneS_z (w.heap.size + 1 + 1) 1 (by omega)
  have zy := oneS_z (w.heap.size + 1 + 1 + 1 + 1 + 1) 2 (by omega)
  have HC1 := Lib.hid fun W' (hb : Below W.heap.size W W') => breaks_any (oneS (w.heap.size + 1 + 1) 1) (oneS (w.heap.size + 1 + 1 + 1 + 1 + 1) 2) W.heap.size W' (hrx.below hb) zx (hry.below hb) zy hb.size
  have HC2 := Lib.hid fun W' (hb : Below W.heap.size W W') => breaks_any (oneS (w.heap.size + 1 + 1) 1) noS W.heap.size W' (hrx.below hb) zx (noS_r _ _) noS_z hb.size
  have HC3 := Lib.hid fun W' (hb : Below W.heap.size W W') => wire_says (oneS (w.heap.size + 1 + 1) 1) (oneS (w.heap.size + 1 + 1 + 1 + 1 + 1) 2) W.heap.size W' (hrx.below hb) zx (hry.below hb) zy hb.size
  have HC4 := Lib.hid fun W' (hb : Below W.heap.size W W') => json_says (oneS (w.heap.size + 1 + 1) 1) (oneS (w.heap.size + 1 + 1 + 1 + 1 + 1) 2) W.heap.size W' (hrx.below hb) zx (hry.below hb) zy hb.size
  rw [breaks_one] at HC1 HC3 HC4
  rw [breaks_no] at HC2
  simp only [SchV.cells, oneS, noS] at HC1 HC2 HC3 HC4
  clear HRX HRY HKX HKY HKX2 HKY2 hrx hry zx zy hlt
  obtain ⟨⟨c0, c1, c2⟩, ⟨d0, d1, d2⟩⟩ := HCL.out W (Below.refl _ _)
  go_wp2_with fail
  refine (HC1.out _ (Below.refl _ _)).mono ?_
  rintro e w1 ⟨A, n, c, rfl, h1⟩
  have HB1 := Lib.hid h1.out.bel
  have HR1 := Lib.hid h1.out.rs
  clear h1 c0 c1 c2 d0 d1 d2
  obtain ⟨⟨c0, c1, c2⟩, ⟨d0, d1, d2⟩⟩ := HCL.out w1 HB1.out
  obtain rfl : (1 : Nat) = n := HR1.out.1
  go_wp2_with fail
  refine (HC2.out _ HB1.out).mono ?_
  rintro e w2 ⟨A2, n2, c2', rfl, h2⟩
  have HB2 := Lib.hid (HB1.out.trans (h2.out.bel.mono HB1.out.size))
  have HR2 := Lib.hid (HR1.out.below h2.out.bel)
  have hn2 : (2 : Nat) = n2 := h2.out.rs.1
  clear h2 c0 c1 c2 d0 d1 d2
  subst hn2
  obtain ⟨⟨c0, c1, c2⟩, ⟨d0, d1, d2⟩⟩ := HCL.out w2 HB2.out
  obtain ⟨ad, x, e, hx, a0, a1, a2, a3, a4⟩ := HR2.out.atB (j := 0) (by omega)
  have e : A = some ad := e
  subst e
  cases hx
  have e0 : ad.add (0 * 5) = ad := by cases ad; rfl
  rw [e0] at a0 a1 a2 a3 a4
  simp only at a0 a1 a2 a3 a4
  clear e0
  go_wp2_with fail
  refine (HC3.out _ HB2.out).mono ?_
  rintro e w3 ⟨rfl, h3⟩
  have HB3 := Lib.hid (HB2.out.trans (h3.mono HB2.out.size))
  clear h3 c0 c1 c2 d0 d1 d2 a0 a1 a2 a3 a4
  obtain ⟨⟨c0, c1, c2⟩, ⟨d0, d1, d2⟩⟩ := HCL.out w3 HB3.out
  have q3 : noneB [⟨⟨#[65]⟩, ⟨#[97]⟩, 1, 2, true⟩] false = true := rfl
  rw [q3]
  clear q3
  go_wp2_with fail
  refine (HC4.out _ HB3.out).mono ?_
  rintro e w4 ⟨rfl, h4⟩
  have HB4 := Lib.hid (HB3.out.trans (h4.mono HB3.out.size))
  clear h4 c0 c1 c2 d0 d1 d2
  have q4 : noneB [⟨⟨#[65]⟩, ⟨#[97]⟩, 1, 2, true⟩] true = false := rfl
  rw [q4]
  clear q4
  go_wp2_with fail
  refine (alikeF_any 11 14 _).mono ?_
  rintro e w5 ⟨rfl, rfl⟩
  have q5 : alikeF 11 14 = true := rfl
  rw [q5]
  clear q5
  go_wp2_with fail
  refine (alikeF_any 0 0 _).mono ?_
  rintro e w6 ⟨rfl, rfl⟩
  have q6 : alikeF 0 0 = false := rfl
  rw [q6]
  clear q6
  go_wp2_with fail
  go_ret
  exact ⟨rfl, HBB.out.trans (HB4.out.mono HBB.out.size)⟩
end Go.Proofs.Ytcjcpkjdhagofaa
