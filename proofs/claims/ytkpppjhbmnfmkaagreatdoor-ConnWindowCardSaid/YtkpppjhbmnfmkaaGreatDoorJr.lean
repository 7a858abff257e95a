/-
  Contract: (*Conn).data of a stream that was never opened.
  What frames do to an end: settings without any, a list of indexes that opens a stream or is refused, data of a stream that was never opened.
-/
import Derived.Test.YtkpppjhbmnfmkaaGreatDoorJj
import Derived.Test.YtkpppjhbmnfmkaaGreatDoorG7
import Derived.Test.YtkpppjhbmnfmkaaGreatDoorJq
import Derived.Test.YtkpppjhbmnfmkaaGreatDoorJk
set_option linter.unusedSimpArgs false
set_option linter.unusedVariables false
section
namespace Go.Proofs.YtkpppjhbmnfmkaaGreatDoor
open Go.RowKit Go.Own Go.Own.Im Go.Own.Cx Go.Own.Fr
set_option maxHeartbeats 2000000 in
set_option maxRecDepth 100000 in
theorem data_idle (w : World) (ow : Nat → Tg) (b : Nat) (M : Cv) (L : Lay) (i : Inf) (sv dv sz : Value) (h : CN w ow b M L) (hk : knownB M i.stream = false) :
    Calls Tryz.prog 148 #[.pointer (some ⟨b, 0, none⟩), .agg (infC i sv dv), sz] w fun e w' => e = .panicked (fltE 1 0) ∧ Below w.heap.size w w' := by
  have HX := Lib.hid (Blk.new w 91 (infC i sv dv))
  have HB0 := Lib.hid ((Below.refl w.heap.size w).alloc (Nat.le_refl _) (.cells (infC i sv dv) 91))
  have HI := Lib.hid (idle_bad _ ow b M L i.stream (h.below HB0.out) hk)
  clear h hk
  go_enter Tryz.func148, Tryz.ntmps148
  go_upto_region 1 with fail
  generalize w.alloc (.cells (infC i sv dv) 91) = W0 at *
  have x2 : W0.cell? ⟨w.heap.size, 2, none⟩ = some (.int .i64 (i.stream : Nat)) := HX.out.cell 2
  go_wp2_with fail
  with_reducible refine HI.out.mono ?_
  rintro e w1 ⟨rfl, hw⟩
  subst w1
  go_wp2
  exact ⟨rfl, rfl, HB0.out⟩
end Go.Proofs.YtkpppjhbmnfmkaaGreatDoor
end

section
namespace Go.Proofs.YtkpppjhbmnfmkaaGreatDoor
open Go.RowKit Go.Own Go.Own.Im Go.Own.Cx Go.Own.Fr Go.Own.Hd
theorem enter_settings : Enters Tryz.prog 155 := enters_of Tryz.func155 (by kernel_rfl) rfl
theorem enter_works1 : Enters Tryz.prog 149 := enters_of Tryz.func149 (by kernel_rfl) rfl
theorem enter_cdata : Enters Tryz.prog 148 := enters_of Tryz.func148 (by kernel_rfl) rfl
/-- The state behind settings without any. -/
def setM (M : Cv) : Cv := { M with greeted := true, out := M.out ++ frameB 4 1 0 [], evs := M.evs ++ [{ kind := 7 }] }
theorem takes_set (M : Cv) (hl : M.list = none) (ho : M.out.length ≤ 1000000000) (hn : M.evs.length ≤ 900000) : TakesT M 4 0 0 [] (fun M' => M' = setM M) := by
  intro w ow b L A c hE h hr hno hc
  have ho4 : opn 4 0 0 [] = .ok { typ := 4 } := opn_set [] (by simp)
  refine takes_any w ow b M L _ 4 0 0 155 #[.pointer (some ⟨b, 0, none⟩)] (fun _ => #[]) A 0 c [] { typ := 4 } h hr hno hc (by decide) (by decide) (by decide) (by decide) rfl (by decide) hl (by decide) (.inr ⟨rfl, by decide⟩) ho4 (fun g => rfl) enter_settings (fun e w' hq => .inl hq.ret) ?_
  intro W g sv dv hcW hfW hbk hg hs hd
  obtain ⟨A5, c5, rfl, _⟩ := hs.form
  exact (settings_none W ow b { M with greeted := true } L { typ := 4 } A5 c5 dv (.int .i64 (0 : Nat)) hcW rfl ho hn).mono fun e w' hp => ⟨_, rfl, hp.trans hfW⟩
theorem takes_heads (M : Cv) (S : Cv → Prop) (id : Nat) (fin : Bool) (l : List UInt8) (hs : List HdrV) (hix : Ix l hs) (hlen : l.length ≤ 100) (hg : M.greeted = true) (hl : M.list = none) (hside : M.side = 2) (hodd : id % 2 = 1) (hk : knownB M id = false) (hnew : strAt M (id : Int) = none) (hid : id ≤ 2147483647)
    (hop : ∀ W ow b L A c, Env W ow → CN W ow b M L → hs.length ≤ c → Cm.RS hdrC 3 W W.heap.size A hs.length hs → (0 < hs.length → ∀ ad, A = some ad → ow ad.block = .evd) → Calls Tryz.prog 196 #[.pointer (some ⟨b, 0, none⟩), .int .i64 (id : Nat), .slice A hs.length c, .bool fin] W (CPostS W ow b S (.tuple #[]))) :
    TakesT M 1 ((if fin then 1 else 0) ||| (if true then 4 else 0)) id l S := by
  intro w ow b L A c hE h hr hno hc
  have hid0 : id ≠ 0 := by omega
  have hM : ({ M with greeted := true, list := none } : Cv) = M := by
    cases M
    simp only at hg hl
    subst hg hl
    rfl
  refine takes_any w ow b M L _ 1 _ id 149 #[] (fun g => #[.pointer (some ⟨g, 0, none⟩)]) A l.length c l { typ := 1, stream := id, endd := fin, endHeads := true, data := l } h hr hno hc (by omega) (by decide) (by cases fin <;> decide) hid (by cases fin <;> rfl) (by cases fin <;> decide) hl (by decide) (.inl hg) (opn_heads id hid0 fin true l) (fun g => rfl) enter_works1 (fun e w' hq => .inl hq.ret) ?_
  intro W g sv dv hcW hfW hbk hg' hs' hd
  obtain ⟨A6, c6, rfl, hle6, _, hrd6⟩ := hd.form
  refine (works1_any W ow b g { M with greeted := true } S L { typ := 1, stream := id, endd := fin, endHeads := true, data := l } sv _ _ hcW hbk (h.new g hg') hside hodd ?_).mono fun e w' hp => hp.trans hfW
  intro W2 ow2 L2 hc2 hf2
  have hE2 : Env W2 ow2 := (hE.fr hfW).fr hf2
  obtain ⟨e1, e2, e3, heh⟩ := hE2.env
  obtain ⟨m, hm⟩ := heh.top
  have htag6 : 0 < l.length → ∀ ad, A6 = some ad → ow ad.block = .no := fun hpos ad ha => by
    refine h.new _ ?_
    rcases hd.2 with ⟨e, h0⟩ | ⟨g, cap, cur, e, hb, _⟩
    · have h0 : l.length = 0 := h0
      omega
    · injection e with e
      rw [ha] at e
      injection e with e
      rw [e]; exact hb
  have hrd2 : Rd W2 W2.heap.size A6 l.length l := (hf2.rd hrd6 (Nat.le_refl _) htag6).more hf2.size
  refine piece_any W2 ow2 b { M with greeted := true, list := some (id, fin, []) } S L2 id fin [] l { typ := 1, stream := id, endd := fin, endHeads := true, data := l } sv A6 l.length c6 hs m hc2 rfl rfl hrd2 hle6 (by simpa using hlen) (by simpa using hix) hside hk hnew hid hm (hE2.no _ (by decide)) ?_
  intro W3 ow3 L3 A3 c3 hc3 hf3 hl3 hrs3 htag3
  have hc3' : CN W3 ow3 b M L3 := by
    have h1 : CN W3 ow3 b { M with greeted := true, list := none } L3 := hc3
    rw [hM] at h1
    exact h1
  exact hop W3 ow3 b L3 A3 c3 (hE2.fr hf3) hc3' hl3 hrs3 htag3
/-- A list is refused: there are too many. -/
def refM (M : Cv) (id : Nat) : Cv := { M with last := id, out := M.out ++ frameB 3 0 id (be 7 4) }
theorem takes_many (M : Cv) (id : Nat) (fin : Bool) (l : List UInt8) (hs : List HdrV) (hix : Ix l hs) (hlen : l.length ≤ 100) (hg : M.greeted = true) (hl : M.list = none) (hside : M.side = 2) (hodd : id % 2 = 1) (hk : knownB M id = false) (hnew : strAt M (id : Int) = none) (hid : id ≤ 2147483647)
    (hm : M.cs ≤ (M.strs.length : Int)) (ho : M.out.length ≤ 1000000000) : TakesT M 1 ((if fin then 1 else 0) ||| (if true then 4 else 0)) id l (fun M' => M' = refM M id) :=
  takes_heads M _ id fin l hs hix hlen hg hl hside hodd hk hnew hid fun W ow b L A c _ hc _ _ _ => (opened_many W ow b M L id _ fin hc ⟨by omega, hid⟩ hm ho).mono fun _ _ hp => ⟨_, rfl, hp⟩
/-- A list opens a stream. -/
def opnM (M : Cv) (id : Nat) (fin : Bool) (hs : List HdrV) (A : Option Addr) (c : Nat) : Cv :=
  { M with last := id, strs := M.strs ++ [endS { id := id, other := 1, inw := M.window, outw := M.others } fin], evs := M.evs ++ [{ kind := 1, stream := id, fin := fin, la := A, lc := c, l := hs }] }
theorem takes_open (M : Cv) (id : Nat) (fin : Bool) (l : List UInt8) (hs : List HdrV) (hix : Ix l hs) (hlen : l.length ≤ 100) (hg : M.greeted = true) (hl : M.list = none) (hside : M.side = 2) (hodd : id % 2 = 1) (hk : knownB M id = false) (hnew : strAt M (id : Int) = none) (hid : id ≤ 2147483647)
    (hns : ∀ s ∈ M.strs, s.id ≠ id) (hm : (M.strs.length : Int) < M.cs) (hbye : M.bye = false) (h0 : 0 ≤ M.window ∧ M.window ≤ 2147483647) (h1 : 0 ≤ M.others ∧ M.others ≤ 2147483647) (hn : M.strs.length ≤ 1000000) (hu : (M.strs.map (·.id)).Nodup) (hpos : 0 < hs.length) (hev : M.evs.length ≤ 900000)
    (hz : H6.Szs hs) (ho : (openS rules4 hs req0).isSome = true) : TakesT M 1 ((if fin then 1 else 0) ||| (if true then 4 else 0)) id l (fun M' => ∃ A c, M' = opnM M id fin hs A c) := by
  refine takes_heads M _ id fin l hs hix hlen hg hl hside hodd hk hnew hid fun W ow b L A c hE hc hlc hrs htag => ?_
  refine (opened_ok W ow b M L id A c hs fin hc hid hns hm hbye h0 h1 hn hu hlc hrs hpos (htag hpos) hev fun W' hf hr => ?_).mono fun _ _ hp => ⟨_, ⟨A, c, rfl⟩, hp⟩
  obtain ⟨e1, e2, e3, heh⟩ := (hE.fr hf).env
  exact headOk_of heh (by rw [← hix.len]; exact hlen) hlc (hr.more hf.size) hz ho
/-- Data of a stream that was never opened. -/
theorem takes_idle (M : Cv) (id : Nat) (hg : M.greeted = true) (hl : M.list = none) (hk : knownB M id = false) (h0 : id ≠ 0) (hid : id ≤ 2147483647) : TakesP M 0 0 id [] (fun M' => M' = M) 1 0 := by
  intro w ow b L A c hE h hr hno hc
  have hM : ({ M with greeted := true } : Cv) = M := by
    cases M
    simp only at hg
    subst hg
    rfl
  refine takes_any w ow b M L _ 0 0 id 148 #[.pointer (some ⟨b, 0, none⟩)] (fun _ => #[]) A 0 c [] { typ := 0, stream := id } h hr hno hc (by decide) (by decide) (by decide) hid rfl (by decide) hl (by decide) (.inl hg) (opn_data id h0 false []) (fun g => rfl) enter_cdata (fun e w' hq => .inr ⟨_, hq.ret⟩) ?_
  intro W g sv dv hcW hfW hbk hg' hs hd
  rw [hM] at hcW
  exact (data_idle W ow b M L { typ := 0, stream := id } sv dv (.int .i64 (0 : Nat)) hcW hk).mono fun e w' hp => ⟨M, ow, L, rfl, hp.1, hcW.below hp.2, hfW.trans (Fr.below hp.2 ow)⟩
theorem fault_dead (M : Cv) (c : Nat) (hc : c < 4294967296) (hl : M.last ≤ 2147483647) (ho : M.out.length ≤ 1000000000) (hn : M.evs.length ≤ 900000) : FaultT M c 0 (fun M' => M' = deadM M c) :=
  fun w ow b L h => (faulty_dead w ow b M L c h hc hl ho hn).mono fun _ _ hp => ⟨_, rfl, hp⟩
end Go.Proofs.YtkpppjhbmnfmkaaGreatDoor
end
