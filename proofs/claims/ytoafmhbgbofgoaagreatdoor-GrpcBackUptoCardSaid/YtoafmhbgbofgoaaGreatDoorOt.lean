/-
  Contract: grpc.OpenTrailers of a list that grpc.Trailers made.
-/
import Derived.Test.YtoafmhbgbofgoaaGreatDoorTw
import Derived.Test.YtoafmhbgbofgoaaGreatDoorRd2
import Derived.Test.YtoafmhbgbofgoaaGreatDoorGt
import Derived.Test.YtoafmhbgbofgoaaGreatDoorUnp
namespace Go.Own.Gb
open Go Go.Own.Hd
/-- The headers of a status. -/
def staL (k : Nat) (t : ByteArray) (R : List HdrV) : List HdrV := [cdH k] ++ msL t ++ R.map wr1
def msV (t : ByteArray) : ByteArray := if t.data.toList = [] then ⟨#[]⟩ else ⟨(Grpc.pct t.data.toList).toArray⟩
theorem sta_st (k : Nat) (t : ByteArray) (R : List HdrV) : getV stS (staL k t R) = some (decT k) := by
  show getV stS (cdH k :: (msL t ++ R.map wr1)) = _
  rw [getV, if_pos (show tx (cdH k).name = stS from rfl)]
  rfl
theorem sta_ms (k : Nat) (t : ByteArray) (R : List HdrV) (hg : R.all goodB = true) : ∃ r, getV msS (staL k t R) = r ∧ r.getD ⟨#[]⟩ = msV t := by
  refine ⟨_, rfl, ?_⟩
  unfold staL msL msV
  show (getV msS (cdH k :: ((if t.data.toList = [] then [] else [msH t]) ++ R.map wr1))).getD _ = _
  rw [getV, if_neg (show tx (cdH k).name ≠ msS from (show stS ≠ msS by decide))]
  split
  · rw [List.nil_append, get_none msS (not_named msS (by decide)) R hg]; rfl
  · rw [List.cons_append, getV, if_pos (show tx (msH t).name = msS from rfl)]; rfl
theorem sta_rdl (k : Nat) (t : ByteArray) (R : List HdrV) (hg : R.all goodB = true) : Rdl (staL k t R) R := by
  refine rdl_pre _ _ _ (fun x hx => ?_) (rdl_map R hg)
  rcases List.mem_append.1 hx with hx | hx
  · rw [List.mem_singleton] at hx
    subst hx
    exact not_named stS (by decide)
  · unfold msL at hx
    split at hx
    · cases hx
    · rw [List.mem_singleton] at hx
      subst hx
      exact not_named msS (by decide)
theorem msV_unp (t : ByteArray) : (⟨(Grpc.unp (msV t).data.toList).toArray⟩ : ByteArray) = t := by
  unfold msV
  split
  · rename_i h
    obtain ⟨⟨l⟩⟩ := t
    have h : l = [] := h
    subst h
    rfl
  · show (⟨(Grpc.unp (Grpc.pct t.data.toList)).toArray⟩ : ByteArray) = t
    rw [Grpc.unp_pct]
theorem msV_size (t : ByteArray) : (msV t).size ≤ 3 * t.size := by
  unfold msV
  split
  · exact Nat.zero_le _
  · rw [Lib.size_eq]
    show (Grpc.pct t.data.toList).length ≤ _
    have h1 := Grpc.pct_len t.data.toList
    have h2 := Lib.size_eq t
    omega
end Go.Own.Gb
namespace Go.Proofs.YtoafmhbgbofgoaaGreatDoor
open Go.RowKit Go.Own Go.Own.Hd Go.Own.Gb Go.Own.B64 Go.WideShapes Go.Proofs.YtoafmhbgbofgoaaGreatDoor.Gp
attribute [local go_sem] Oper.semAt_some
theorem sta_szn (k : Nat) (t : ByteArray) (R : List HdrV) (hz : Szk R) : Szn (staL k t R) := fun x hx => by
  rcases List.mem_append.1 hx with hx | hx
  · rcases List.mem_append.1 hx with hx | hx
    · rw [List.mem_singleton] at hx
      subst hx
      show (⟨#[103, 114, 112, 99, 45, 115, 116, 97, 116, 117, 115]⟩ : ByteArray).size ≤ _
      decide
    · unfold msL at hx
      split at hx
      · cases hx
      · rw [List.mem_singleton] at hx
        subst hx
        show (⟨#[103, 114, 112, 99, 45, 109, 101, 115, 115, 97, 103, 101]⟩ : ByteArray).size ≤ _
        decide
  · obtain ⟨y, hy, rfl⟩ := List.mem_map.1 hx
    rw [wr1_name]
    exact (hz y hy).1
theorem resS (tmps : Array Value) (w : World) (b : Nat) (a0 a1 a2 ev : Value) (ht : tmps[2]? = some (.pointer (some ⟨b, 0, none⟩))) (h3 : tmps[3]? = some ev) (hb : Blk w b 47 #[a0, a1, a2]) :
    (results Tryz.f13 tmps).run Tryz.prog w = .ok (.tuple #[.agg #[a0, a1, a2], ev]) w := by
  have c0 : w.cell? ⟨b, 0, none⟩ = some a0 := hb.cell 0
  have c1 : w.cell? ⟨b, 1, none⟩ = some a1 := hb.cell 1
  have c2 : w.cell? ⟨b, 2, none⟩ = some a2 := hb.cell 2
  simp [results, Tryz.results13, go_sem, ht, h3, c0, c1, c2]
def OtPost (k : Nat) (t : ByteArray) (R : List HdrV) (w : World) (e : Ending) (w' : World) : Prop :=
  Below w.heap.size w w' ∧ ∃ (A : Option Addr) (c : Nat), e = .returned (.tuple #[.agg #[.int .i64 (k : Int), .string t, .slice A R.length c], .bool true]) ∧ Hw w' w.heap.size (.slice A R.length c) R
set_option maxHeartbeats 8000000 in
set_option maxRecDepth 100000 in
theorem openTrailers_any (k : Nat) (t : ByteArray) (A : Option Addr) (n c : Nat) (R : List HdrV) (w : World) {e1 e2 e3 g1 g2 g3 g4 : Addr} (he : EnvH w e1 e2 e3) (hg : EnvG w g1 g2 g3 g4) (hn : n ≤ 100)
    (hr : Hr w A n (staL k t R)) (hz : Szk R) (hgd : R.all goodB = true) (hk : k ≤ 16) (ht : t.size ≤ 3000) :
    Calls Tryz.prog 13 #[.slice A n c] w (OtPost k t R w) := by
  have HE := Lib.hid he
  have HG := Lib.hid hg
  have HR := Lib.hid hr
  have HZ := Lib.hid hz
  have HGD := Lib.hid hgd
  obtain ⟨r, hr1, hr2⟩ := sta_ms k t R hgd
  have HRR := Lib.hid (And.intro hr1 hr2)
  clear he hg hr hz hgd hr1 hr2
  have hDl : (Lib.decDigits k).length ≤ 2 := dec_len 1 k (by omega)
  have hD2 : (decT k).size ≤ 2 := by rw [Lib.size_eq]; exact hDl
  have htr := fun W => Tryz.strings_Trim_laid (decT k) ⟨#[48, 49, 50, 51, 52, 53, 54, 55, 56, 57]⟩ W (by omega) (by decide) (ascii_of_all (by decide))
  rw [show Lib.trimS (decT k).data.toList (⟨#[48, 49, 50, 51, 52, 53, 54, 55, 56, 57]⟩ : ByteArray).data.toList = [] from trim_digs _ (dec_mem k)] at htr
  have hat := fun W => Tryz.strconv_Atoi (decT k) (k : Int) (by omega) (dec_atoi k) W
  have hst := sta_st k t R
  obtain ⟨D, hD⟩ : ∃ D, decT k = D := ⟨_, rfl⟩
  obtain ⟨kk, hkk⟩ : ∃ kk : Int, (k : Int) = kk := ⟨_, rfl⟩
  rw [hD] at htr hat hst hD2
  rw [hkk] at hat
  have HT := Lib.hid htr
  have HA := Lib.hid hat
  have HST := Lib.hid hst
  have HKK := Lib.hid hkk
  have hd2 : decide ((D.size : Int) ≤ 2) = true := decide_eq_true (by omega)
  have hd2b : ((D.size : Int) ≤ 2) := by omega
  have hk16 : kk ≤ 16 := by omega
  clear htr hat hst hD hkk hDl
  go_enter Tryz.func13, Tryz.ntmps13
  go_upto_region 1 with fail
  have HB0 := Lib.hid (show Below w.heap.size w (w.alloc (.cells #[.int .i64 0, .string ⟨#[]⟩, .slice none 0 0] 47)) from (Below.refl _ _).alloc (Nat.le_refl _) _)
  have HK0 := Lib.hid (Blk.new w 47 #[.int .i64 0, .string ⟨#[]⟩, .slice none 0 0])
  have HSz := Lib.hid (show (w.alloc (.cells #[.int .i64 0, .string ⟨#[]⟩, .slice none 0 0] 47)).heap.size = w.heap.size + 1 by simp)
  generalize w.alloc (.cells #[.int .i64 0, .string ⟨#[]⟩, .slice none 0 0] 47) = w0 at HB0 HK0 HSz ⊢
  have hget := get_any A n c (staL k t R) ⟨#[103, 114, 112, 99, 45, 115, 116, 97, 116, 117, 115]⟩ w0 (by omega) (HR.out.below HB0.out)
  rw [show tx ⟨#[103, 114, 112, 99, 45, 115, 116, 97, 116, 117, 115]⟩ = stS from rfl, HST.out] at hget
  have HGet := Lib.hid hget
  clear hget
  go_wp2_with fail
  refine HGet.out.mono ?_
  rintro e w1 ⟨g1, rfl⟩
  have HJ1 := Lib.hid g1
  have HBf := Lib.hid (fun W (hW : Below w1.heap.size w1 W) => (show Below w.heap.size w W from HB0.out.trans ((HJ1.out.trans (hW.mono HJ1.out.size)).mono HB0.out.size)))
  have HK1 := Lib.hid (HK0.out.below HJ1.out HK0.out.lt)
  have HLt := Lib.hid (show w.heap.size < w1.heap.size from by have := HJ1.out.size; have := HSz.out; omega)
  clear g1 HGet HSz
  go_wp2_with fail
  refine (read_any A n c (staL k t R) R w1 (HE.out.below (HBf.out w1 (Below.refl _ _)) HE.out.room) (by omega) (HR.out.below (HBf.out w1 (Below.refl _ _))) (sta_szn k t R HZ.out) HZ.out (sta_rdl k t R HGD.out)).mono ?_
  rintro e w2 ⟨g2, A2, c2, rfl, hc2, hw2⟩
  have G2 := Lib.hid g2
  have W2 := Lib.hid hw2
  clear g2 hw2 hc2
  go_upto_region 5 with fail
  have G3 := Lib.hid (G2.out.alloc G2.out.size (.cells #[.int .i64 2, .string ⟨#[]⟩, .slice A2 R.length c2] 47))
  have K3 := Lib.hid (Blk.new w2 47 #[.int .i64 2, .string ⟨#[]⟩, .slice A2 R.length c2])
  have W3 := Lib.hid (show Hw (w2.alloc (.cells #[.int .i64 2, .string ⟨#[]⟩, .slice A2 R.length c2] 47)) w1.heap.size (.slice A2 R.length c2) R from W2.out.below ((Below.refl _ _).alloc (Nat.le_refl _) _))
  obtain ⟨q, hq⟩ : ∃ q, w2.heap.size = q := ⟨_, rfl⟩
  have HAp := Lib.hid (show ∀ b, (Value.slice A2 R.length c2).ownBlock = some b → b < q from fun b e => by rw [← hq]; exact (W2.out.lt b e).2)
  have HQ := Lib.hid (show w1.heap.size ≤ q from hq ▸ G2.out.size)
  generalize w2.alloc (.cells #[.int .i64 2, .string ⟨#[]⟩, .slice A2 R.length c2] 47) = w3 at G3 K3 W3 ⊢
  rw [hq] at K3 ⊢
  clear hq G2 W2
  go_wp2_with fail
  refine (HA.out w3).mono ?_
  rintro e w4 ⟨rfl, tt, rfl⟩
  have g4 := Lib.bytesWorld_below w3 5 tt
  generalize Lib.bytesWorld w3 5 tt = w4 at g4 ⊢
  have G4 := Lib.hid (G3.out.trans (g4.mono G3.out.size))
  have K4 := Lib.hid (K3.out.below g4 K3.out.lt)
  have W4 := Lib.hid (W3.out.below g4)
  clear g4
  go_wp2_with fail
  refine (HT.out w4).mono ?_
  rintro e w5 ⟨rfl, g5⟩
  have G5 := Lib.hid (G4.out.trans (g5.mono G4.out.size))
  have k5 := K4.out.below g5 K4.out.lt
  have K5 := Lib.hid k5
  have W5 := Lib.hid (W4.out.below g5)
  have y0 : w5.cell? ⟨q, 0, none⟩ = some (.int .i64 2) := k5.cell 0
  have z0 := k5.frozen 0
  clear g5 k5
  have G6 := Lib.hid (show Below w1.heap.size w1 (w5.setCell ⟨q, 0, none⟩ (.int .i64 kk)) from G5.out.setCell HQ.out _)
  have K6 := Lib.hid (K5.out.put 0 (.int .i64 kk))
  have W6 := Lib.hid (show Hw (w5.setCell ⟨q, 0, none⟩ (.int .i64 kk)) w1.heap.size (.slice A2 R.length c2) R from Hw.grown (row := some q) W5.out (grown_setCell (World.grownBy.refl _ (some q)) 0 _) (.inr (fun e => by have := HAp.out _ e; omega)))
  have hget := fun W (hW : Below w1.heap.size w1 W) => get_any A n c (staL k t R) ⟨#[103, 114, 112, 99, 45, 109, 101, 115, 115, 97, 103, 101]⟩ W (by omega) (HR.out.below (HBf.out W hW))
  rw [show tx ⟨#[103, 114, 112, 99, 45, 109, 101, 115, 115, 97, 103, 101]⟩ = msS from rfl, HRR.out.1] at hget
  have HGet := Lib.hid hget
  clear hget
  go_wp2_with fail
  refine (HGet.out _ G6.out).mono ?_
  rintro e w7 ⟨g7, rfl⟩
  rw [HRR.out.2]
  have G7 := Lib.hid (G6.out.trans (g7.mono G6.out.size))
  have K7 := Lib.hid (K6.out.below g7 K6.out.lt)
  have W7 := Lib.hid (W6.out.below g7)
  clear g7 y0 z0
  have hun := unpercent_any (msV t) w7 _ _ _ _ (HG.out.below (HBf.out _ G7.out) (Nat.le_trans (by decide) HE.out.room)) (by have := msV_size t; omega)
  rw [msV_unp] at hun
  have HUn := Lib.hid hun
  clear hun
  obtain ⟨V, hV⟩ : ∃ V, msV t = V := ⟨_, rfl⟩
  rw [hV] at HUn ⊢
  clear hV
  go_wp2_with fail
  refine HUn.out.mono ?_
  rintro e w8 ⟨rfl, g8⟩
  have G8 := Lib.hid (G7.out.trans (g8.mono G7.out.size))
  have k8 := K7.out.below g8 K7.out.lt
  have K8 := Lib.hid k8
  have W8 := Lib.hid (W7.out.below g8)
  have y0 : w8.cell? ⟨q, 0, none⟩ = some (.int .i64 kk) := k8.cell 0
  have y1 : w8.cell? ⟨q, 1, none⟩ = some (.string ⟨#[]⟩) := k8.cell 1
  have y2 : w8.cell? ⟨q, 2, none⟩ = some (.slice A2 R.length c2) := k8.cell 2
  have y5 := k8.frozen 1
  have b0 := HK1.out.below G8.out HK1.out.lt
  have HB := Lib.hid b0
  have x0 : w8.cell? ⟨w.heap.size, 0, none⟩ = some (.int .i64 0) := b0.cell 0
  have x1 : w8.cell? ⟨w.heap.size, 1, none⟩ = some (.string ⟨#[]⟩) := b0.cell 1
  have x2 : w8.cell? ⟨w.heap.size, 2, none⟩ = some (.slice none 0 0) := b0.cell 2
  have u0 := b0.frozen 0
  have u1 := b0.frozen 1
  have u2 := b0.frozen 2
  have hne : w.heap.size ≠ q := by have := HQ.out; have := HLt.out; omega
  have hne2 : q ≠ w.heap.size := hne.symm
  have HNe := Lib.hid hne
  clear g8 k8 b0
  go_wp2
  have hb0 : Blk ((((w8.setCell ⟨q, 1, none⟩ (.string t)).setCell ⟨w.heap.size, 0, none⟩ (.int .i64 kk)).setCell ⟨w.heap.size, 1, none⟩ (.string t)).setCell ⟨w.heap.size, 2, none⟩ (.slice A2 R.length c2)) w.heap.size 47 #[.int .i64 kk, .string t, .slice A2 R.length c2] := (((HB.out.far HNe.out _).put 0 _).put 1 _).put 2 _
  refine bodyPost_ret (resS _ _ w.heap.size _ _ _ _ rfl rfl hb0) rfl ⟨((((HBf.out w8 G8.out).setCell (by show w.heap.size ≤ q; have := HQ.out; have := HLt.out; omega) _).setCell (Nat.le_refl _) _).setCell (Nat.le_refl _) _).setCell (Nat.le_refl _) _, A2, c2, by rw [HKK.out]; rfl, ?_⟩
  exact Hw.base (hw_put HLt.out (hw_put HLt.out (hw_put HLt.out (Hw.grown (row := some q) W8.out (grown_setCell (World.grownBy.refl _ (some q)) 1 _) (.inr (fun e => by have := HAp.out _ e; omega)))))) (Nat.le_of_lt HLt.out)
end Go.Proofs.YtoafmhbgbofgoaaGreatDoor
