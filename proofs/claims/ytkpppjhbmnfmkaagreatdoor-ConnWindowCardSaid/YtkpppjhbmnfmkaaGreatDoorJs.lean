/-
  Contract: (*Conn).Feed, given what its steps do.
  The states of the end of the examples, and the steps between them. No program text is walked here.
-/
import Derived.Test.YtkpppjhbmnfmkaaGreatDoorJo
import Derived.BigQuiet
import Derived.Test.YtkpppjhbmnfmkaaGreatDoorJr
import Derived.Test.YtkpppjhbmnfmkaaGreatDoorC3
set_option linter.unusedSimpArgs false
set_option linter.unusedVariables false
section
namespace Go.Proofs.YtkpppjhbmnfmkaaGreatDoor
open Go.RowKit Go.Own Go.Own.Im Go.Own.Cx Go.Own.Fr
/-- Between two steps: k more are enough. -/
def FP (w0 : World) (ow0 : Nat → Tg) (b : Nat) (S : Cv → Prop) (wr : World) (k : Nat) : Prop := ∃ M ow L, Runs k M S ∧ CN wr ow b M L ∧ Fr w0 ow0 wr ow ∧ Env wr ow
theorem least_nat {P : Nat → Prop} (h : ∃ k, P k) : ∃ k, P k ∧ ∀ j, P j → k ≤ j := by
  obtain ⟨k, hk⟩ := h
  induction k using Nat.strongRecOn with
  | _ k ih =>
    by_cases hx : ∃ j, j < k ∧ P j
    · obtain ⟨j, h1, h2⟩ := hx
      exact ih j h1 h2
    · exact ⟨k, hk, fun j hj => Nat.le_of_not_lt fun hlt => hx ⟨j, hlt, hj⟩⟩
open Classical in
noncomputable def fpK (w0 : World) (ow0 : Nat → Tg) (b : Nat) (S : Cv → Prop) (wr : World) : Nat := if h : ∃ k, FP w0 ow0 b S wr k then (least_nat h).choose else 0
theorem fp_find {w0 : World} {ow0 : Nat → Tg} {b : Nat} {S : Cv → Prop} {wr : World} (h : ∃ k, FP w0 ow0 b S wr k) : FP w0 ow0 b S wr (fpK w0 ow0 b S wr) := by
  unfold fpK
  rw [dif_pos h]
  exact (least_nat h).choose_spec.1
theorem fp_le {w0 : World} {ow0 : Nat → Tg} {b : Nat} {S : Cv → Prop} {wr : World} {k : Nat} (h : FP w0 ow0 b S wr k) : fpK w0 ow0 b S wr ≤ k := by
  have h' : ∃ k, FP w0 ow0 b S wr k := ⟨k, h⟩
  unfold fpK
  rw [dif_pos h']
  exact (least_nat h').choose_spec.2 k h
set_option maxHeartbeats 4000000 in
set_option maxRecDepth 100000 in
theorem feed_any (w : World) (ow : Nat → Tg) (b : Nat) (M : Cv) (L : Lay) (S : Cv → Prop) (k : Nat) (A : Option Addr) (n c : Nat) (l : List UInt8) (hE : Env w ow) (h : CN w ow b M L) (hr : Rd w w.heap.size A n l) (hno : 0 < n → ∀ ad, A = some ad → ow ad.block = .no) (hd : M.dead = false) (hn : M.fed.length + n ≤ 140737488355328)
    (hR : Runs k { M with evs := [], fed := M.fed ++ l } S) : Calls Tryz.prog 10 #[.pointer (some ⟨b, 0, none⟩), .slice A n c] w (FeedPost w ow b S) := by
  have hu := h.unevs
  have HC0 := Lib.hid hu.1
  have HF0 := Lib.hid hu.2
  have HE := Lib.hid hE
  have HRu := Lib.hid hR
  have HN := Lib.hid hn
  have HR0 := Lib.hid (show Rd (w.setCell ⟨b, 7, none⟩ (.slice none 0 0)) w.heap.size A n l from ⟨hr.1, fun hp => by
    obtain ⟨ad, ha, hlt, hc⟩ := hr.2 hp
    refine ⟨ad, ha, hlt, fun j hj => ?_⟩
    have hne : ad.block ≠ b := fun e2 => by have := hno hp ad ha; rw [e2, h.tb] at this; cases this
    exact (World.cell?_of_block (a := ad.add j) (by rw [add_block]; exact Below.heap_setCell w _ _ _ hne)).trans (hc j hj)⟩)
  have f7 := h.blk.frozen 7
  have c7 : w.cell? ⟨b, 7, none⟩ = some L.ev := h.blk.cell 7
  have HD := Lib.hid hd
  clear h hr hno hd hn hR hu hE
  go_enter Tryz.func10, Tryz.ntmps10
  go_upto_region 2 with fail
  generalize w.setCell ⟨b, 7, none⟩ (.slice none 0 0) = W0 at *
  have d19 : W0.cell? ⟨b, 19, none⟩ = some (.bool M.dead) := HC0.out.blk.cell 19
  rw [HD.out] at d19
  have hoz := HC0.out.p.fed
  obtain ⟨A0, c0, hL0, _, _⟩ := hoz.form
  have hL0 : L.fed = .slice A0 M.fed.length c0 := hL0
  have d3 : W0.cell? ⟨b, 3, none⟩ = some L.fed := HC0.out.blk.cell 3
  rw [hL0] at d3
  have HOz := Lib.hid (show Oz W0 (fun g => offE ow g = .fed) (.slice A0 M.fed.length c0) M.fed from hL0 ▸ hoz)
  have HB := Lib.hid HC0.out.blk
  have HTb := Lib.hid HC0.out.tb
  clear hoz hL0 c7 f7
  go_upto_region 4 with (first
    | (refine wpList_app_z byteP _ rfl (.tmp 18) (.tmp 19) rfl (fun g => offE ow g = .fed) (.slice A0 M.fed.length c0) M.fed rfl HOz.out w.heap.size A n c l rfl HR0.out HN.out ?_
       intro A8 c8 w8 row8 hO8 hg8 hr8
       have HO8 := Lib.hid hO8
       have HG8 := Lib.hid hg8
       have HR8 := Lib.hid hr8
       have hP8 := HB.out.grown hg8 (fun e => by have h1 := (hr8 b e.symm).1; rw [HTb.out] at h1; cases h1)
       have hf8 : w8.frozen? ⟨b, 3, none⟩ = false := hP8.frozen 3
       have hc8 : w8.cell? ⟨b, 3, none⟩ = some _ := hP8.cell 3
       clear hP8 hO8 hg8 hr8)
    | fail)
  obtain ⟨ow1, L1, hc1, hf1, _⟩ := HC0.out.feeds HO8.out HG8.out HR8.out
  have hfr := HF0.out.trans hf1
  have HFP := Lib.hid (show ∃ k, FP w ow b S _ k from ⟨k, _, ow1, L1, HRu.out, hc1, hfr, HE.out.fr hfr⟩)
  clear hc1 hf1 hfr hf8 hc8 d3 d19
  generalize w8.setCell ⟨b, 3, none⟩ _ = W1 at *
  go_loopw [23] (fun _ wr => Hid (∃ k, FP w ow b S wr k)) (fun _ wr => fpK w ow b S wr)
  case atStart => exact HFP.out
  case round =>
    obtain ⟨k1, hk1⟩ : ∃ k, fpK w ow b S wr = k := ⟨_, rfl⟩
    have hfp := fp_find hrel
    rw [hk1] at hfp
    obtain ⟨M1, ow2, L2, hruns, hc, hf, he⟩ := hfp
    have HC := Lib.hid hc
    have HF := Lib.hid hf
    have HEn := Lib.hid he
    have e19 : wr.cell? ⟨b, 19, none⟩ = some (.bool M1.dead) := hc.blk.cell 19
    obtain ⟨Ae, ce, hLe, HH⟩ := hc.handed
    have HHa := Lib.hid HH
    have e7 : wr.cell? ⟨b, 7, none⟩ = some L2.ev := hc.blk.cell 7
    rw [hLe] at e7
    have ef7 := hc.blk.frozen 7
    clear hrel hc hf he HH hLe
    cases hruns with
    | dead h1 h2 =>
      rw [h1] at e19
      have HS := Lib.hid h2
      clear h1 h2
      go_wp2
      go_ret
      exact HHa.out _ _ HF.out _ HS.out
    | stop h1 h2 =>
      rw [h1] at e19
      have HS := Lib.hid (h2 wr ow2 b L2 HEn.out HC.out)
      clear h1 h2 e7 ef7
      go_wp2_with (first
        | (go_at_call 40
           refine Calls.mono HS.out ?_
           intro e w2 hp
           obtain rfl := hp.ret
           obtain ⟨M2, ow3, L3, hs3, hc3, hf3⟩ := hp.out
           clear hp
           obtain ⟨A3, c3, hL3, HH⟩ := hc3.handed
           have HHb := Lib.hid (HH w ow (HF.out.trans hf3) S hs3)
           have e7 : w2.cell? ⟨b, 7, none⟩ = some L3.ev := hc3.blk.cell 7
           rw [hL3] at e7
           have ef7 := hc3.blk.frozen 7
           clear hs3 hc3 hf3 HH hL3)
        | fail)
      go_ret
      exact HHb.out
    | more h1 h2 h3 =>
      rw [h1] at e19
      have HS := Lib.hid (h2 wr ow2 b L2 HEn.out HC.out)
      have HN3 := Lib.hid h3
      clear h1 h2 h3 e7 ef7
      go_wp2_with (first
        | (go_at_call 40
           refine Calls.mono HS.out ?_
           intro e w2 hp
           obtain rfl := hp.ret
           have HP := Lib.hid hp
           clear hp)
        | fail)
      obtain ⟨M2, ow3, L3, hs3, hc3, hf3⟩ := HP.out.out
      have hfp2 : FP w ow b S w2 _ := ⟨M2, ow3, L3, HN3.out M2 hs3, hc3, HF.out.trans hf3, HEn.out.fr hf3⟩
      exact ⟨Lib.hid ⟨_, hfp2⟩, Nat.lt_of_le_of_lt (fp_le hfp2) (by rw [hk1]; exact Nat.lt_succ_self _)⟩
end Go.Proofs.YtkpppjhbmnfmkaaGreatDoor
end

section
namespace Go.Proofs.YtkpppjhbmnfmkaaGreatDoor
open Go.RowKit Go.Own Go.Own.Im Go.Own.Cx Go.Own.Fr Go.Own.Hd
theorem StepT.mono {M : Cv} {m : Bool} {S S2 : Cv → Prop} (h : StepT M m S) (hi : ∀ M', S M' → S2 M') : StepT M m S2 := fun w ow b L hE hc => (h w ow b L hE hc).mono fun _ _ ⟨M', hs, hp⟩ => ⟨M', hi M' hs, hp⟩
/-- The preface, byte by byte. -/
theorem runs_pref {S : Cv → Prop} {n : Nat} (M : Cv) (r : List UInt8) (hd : M.dead = false) (h : Runs n { M with preface := 24, fed := r } S) : ∀ k, k ≤ 24 → Runs (n + k) { M with preface := 24 - k, fed := prefB.drop (24 - k) ++ r } S
  | 0, _ => by
    have e : prefB.drop 24 = [] := rfl
    rw [Nat.sub_zero, e]
    exact h
  | k + 1, hk => by
    have ih := runs_pref M r hd h k (by omega)
    have hlt : 24 - (k + 1) < prefB.length := by show 24 - (k + 1) < 24; omega
    have e1 : 24 - (k + 1) + 1 = 24 - k := by omega
    have e2 : prefB.drop (24 - (k + 1)) = prefB[24 - (k + 1)] :: prefB.drop (24 - k) := by rw [List.drop_eq_getElem_cons hlt, e1]
    rw [e2]
    refine .more hd (step_pref { M with preface := 24 - (k + 1), fed := prefB[24 - (k + 1)] :: (prefB.drop (24 - k) ++ r) } _ _ (List.getElem?_eq_getElem hlt) rfl) fun M1 h1 => ?_
    rw [h1]
    have e3 : ({ M with preface := 24 - (k + 1), fed := prefB[24 - (k + 1)] :: (prefB.drop (24 - k) ++ r) } : Cv).preface + 1 = 24 - k := e1
    rw [e3]
    exact ih
/-- The list of the examples. -/
def b3 : List UInt8 := [131, 134, 132]
def hs3 : List HdrV := [⟨⟨#[58, 109, 101, 116, 104, 111, 100]⟩, ⟨#[80, 79, 83, 84]⟩, false⟩, ⟨⟨#[58, 115, 99, 104, 101, 109, 101]⟩, ⟨#[104, 116, 116, 112]⟩, false⟩, ⟨⟨#[58, 112, 97, 116, 104]⟩, ⟨#[47]⟩, false⟩]
theorem ix3 : Ix b3 hs3 := ⟨⟨3, rfl, rfl⟩, ⟨6, rfl, rfl⟩, ⟨4, rfl, rfl⟩, trivial⟩
theorem opn3 : (openS rules4 hs3 req0).isSome = true := by kernel_rfl
theorem szs3 : H6.Szs hs3 := by
  intro h hm
  simp only [hs3, List.mem_cons, List.not_mem_nil, or_false] at hm
  rcases hm with rfl | rfl | rfl <;> decide
theorem flag5 : ((if true then 1 else 0) ||| (if true then 4 else 0) : Nat) = 5 := by decide
/-- A state that has greeted, with settings told, behind the whole first feed. -/
def s1 : Cv := { newM 2 65535 1 with out := [] }
def m5 (A : Option Addr) (c : Nat) : Cv := opnM (setM { s1 with preface := 24 }) 1 true hs3 A c
def s2 : Cv := { m5 none 0 with evs := [] }
theorem runs1 : Runs 26 { s1 with evs := [], fed := s1.fed ++ ((prefB ++ frameB 4 0 0 []) ++ frameB 1 5 1 b3) } (fun M' => ∃ A c, M' = m5 A c) := by
  have h := runs_pref (S := fun M' => ∃ A c, M' = m5 A c) (n := 2) s1 (frameB 4 0 0 [] ++ frameB 1 5 1 b3) rfl ?_ 24 (Nat.le_refl _)
  · have e : ({ s1 with evs := [], fed := s1.fed ++ ((prefB ++ frameB 4 0 0 []) ++ frameB 1 5 1 b3) } : Cv) = { s1 with preface := 24 - 24, fed := prefB.drop (24 - 24) ++ (frameB 4 0 0 [] ++ frameB 1 5 1 b3) } := by
      have e1 : s1.fed ++ ((prefB ++ frameB 4 0 0 []) ++ frameB 1 5 1 b3) = prefB.drop (24 - 24) ++ (frameB 4 0 0 [] ++ frameB 1 5 1 b3) := by
        show [] ++ _ = _
        rw [List.nil_append, List.append_assoc]
        rfl
      rw [e1]
      rfl
    rw [e]
    exact h
  · refine .more rfl (step_takes _ _ 4 0 0 [] (frameB 1 5 1 b3) rfl rfl (by decide) (by decide) (by decide) (by decide) (takes_set _ rfl (by decide) (by decide))) fun M1 h1 => ?_
    subst h1
    refine .more rfl (step_takes _ _ 1 5 1 b3 [] rfl (by show frameB 1 5 1 b3 = _; rw [List.append_nil]) (by decide) (by decide) (by decide) (by decide) (flag5 ▸ takes_open _ 1 true b3 hs3 ix3 (by decide) rfl rfl rfl rfl rfl rfl (by decide) (fun s hs => by cases hs) (by decide) rfl ⟨by decide, by decide⟩ ⟨by decide, by decide⟩ (by decide) (by show ([] : List Nat).Nodup; exact List.nodup_nil) (by decide) (by decide) szs3 opn3)) fun M2 h2 => ?_
    obtain ⟨A, c, rfl⟩ := h2
    exact .stop rfl ((step_few _ rfl (by show ([] : List UInt8).length < 9; decide)).mono fun M' h' => ⟨A, c, h'⟩)
end Go.Proofs.YtkpppjhbmnfmkaaGreatDoor
end
