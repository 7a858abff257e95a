/-
  Contracts: give; (*Conn).idle; works: the table of what frames do.
  Contract: (*Conn).settings: settings without any.
  What a call of a method leaves, where the state behind it is one of many. No program text is walked here.
-/
import Derived.Test.YtkpppjhbmnfmkaaGreatDoorJi
import Derived.Recover
import Derived.Defers
import Derived.Test.YtkpppjhbmnfmkaaGreatDoorJc
set_option linter.unusedSimpArgs false
set_option linter.unusedVariables false
section
namespace Go.Proofs.YtkpppjhbmnfmkaaGreatDoor
open Go.RowKit Go.Own Go.Own.Im Go.Own.Cx Go.Own.Fr
/-- What a frame is given up with. -/
def fltE (c s : Nat) : List PanicEntry := [{ v := .iface 143 (.agg #[.int .i64 (c : Nat), .int .i64 (s : Nat)]), recovered := false }]
set_option maxHeartbeats 1000000 in
theorem give_any (c s : Nat) (w : World) : Calls Tryz.prog 70 #[.int .i64 (c : Nat), .int .i64 (s : Nat)] w fun e w' => e = .panicked (fltE c s) ∧ w' = w := by
  go_enter Tryz.func70, Tryz.ntmps70
  go_wp2
  exact ⟨rfl, rfl, rfl⟩
/-- Was the stream opened ever? -/
def knownB (M : Cv) (id : Nat) : Bool := decide (id % 2 = 1 ∧ id ≤ M.last)
set_option maxHeartbeats 1000000 in
theorem idle_bad (w : World) (ow : Nat → Tg) (b : Nat) (M : Cv) (L : Lay) (id : Nat) (h : CN w ow b M L) (hk : knownB M id = false) :
    Calls Tryz.prog 154 #[.pointer (some ⟨b, 0, none⟩), .int .i64 (id : Nat)] w fun e w' => e = .panicked (fltE 1 0) ∧ w' = w := by
  have HK := known_any w ow b M L id h
  rw [show decide (id % 2 = 1 ∧ id ≤ M.last) = false from hk] at HK
  have HK := Lib.hid HK
  clear h hk
  go_enter Tryz.func154, Tryz.ntmps154
  go_wp2_with fail
  with_reducible refine HK.out.mono ?_
  rintro e w1 ⟨rfl, hw⟩
  subst w1
  go_wp2_with fail
  refine (give_any 1 0 w).mono ?_
  rintro e w1 ⟨rfl, hw⟩
  subst w1
  go_wp2
  exact ⟨rfl, rfl, rfl⟩
set_option maxHeartbeats 1000000 in
theorem idle_ok (w : World) (ow : Nat → Tg) (b : Nat) (M : Cv) (L : Lay) (id : Nat) (h : CN w ow b M L) (hk : knownB M id = true) (hw : (Lit.int .i64 (id : Int)).wf = true) :
    Calls Tryz.prog 154 #[.pointer (some ⟨b, 0, none⟩), .int .i64 (id : Nat)] w fun e w' => e = .returned (atI (M.strs.map (·.id)) (sptr L) (.pointer none) (id : Int)) ∧ w' = w := by
  have HK := known_any w ow b M L id h
  rw [show decide (id % 2 = 1 ∧ id ≤ M.last) = true from hk] at HK
  have HK := Lib.hid HK
  have hlk := look_str h (id : Int) hw
  have c15 : w.cell? ⟨b, 15, none⟩ = some (.map (some L.mb)) := h.blk.cell 15
  obtain ⟨v, hv⟩ : ∃ v, atI (M.strs.map (·.id)) (sptr L) (.pointer none) (id : Int) = v := ⟨_, rfl⟩
  rw [hv] at hlk ⊢
  clear h hk hv
  go_enter Tryz.func154, Tryz.ntmps154
  go_wp2_with fail
  with_reducible refine HK.out.mono ?_
  rintro e w1 ⟨rfl, hw⟩
  subst w1
  go_wp2
  go_ret
  exact ⟨rfl, rfl⟩
/-- What frames do, by their type. -/
def wkF (g b : Nat) (k : Int) : Option Value :=
  if k = 8 then some (.func (.func 158) #[] #[.pointer (some ⟨g, 0, none⟩)]) else
  if k = 7 then some (.func (.func 157) #[] #[.pointer (some ⟨g, 0, none⟩)]) else
  if k = 6 then some (.func (.func 156) #[] #[.pointer (some ⟨g, 0, none⟩)]) else
  if k = 4 then some (.func (.func 155) #[.pointer (some ⟨b, 0, none⟩)] #[]) else
  if k = 3 then some (.func (.func 153) #[] #[.pointer (some ⟨g, 0, none⟩)]) else
  if k = 5 then some (.func (.func 152) #[] #[]) else
  if k = 9 then some (.func (.func 151) #[] #[.pointer (some ⟨g, 0, none⟩)]) else
  if k = 1 then some (.func (.func 149) #[] #[.pointer (some ⟨g, 0, none⟩)]) else
  if k = 0 then some (.func (.func 148) #[.pointer (some ⟨b, 0, none⟩)] #[]) else
  none
set_option maxHeartbeats 8000000 in
set_option maxRecDepth 100000 in
theorem works_any (b : Nat) (w : World) : Calls Tryz.prog 115 #[.pointer (some ⟨b, 0, none⟩)] w fun e w' => e = .returned (.map (some (w.heap.size + 1))) ∧ Blk w' w.heap.size 26 #[.pointer (some ⟨b, 0, none⟩)] ∧ HM Tryz.prog 3 w' (w.heap.size + 1) 9 (wkF w.heap.size b) ∧ Below w.heap.size w w' := by
  have hmf : ∀ (fn : Fn) (first cap : Array Value) (w : World), (Instr.makeFunc fn first cap).run Tryz.prog w = .ok (.func fn first cap) w := fun _ _ _ _ => rfl
  have hmk := fun W => run_mkMap (P := Tryz.prog) 201 W
  have HX := Lib.hid (Blk.new w 26 #[.pointer (some ⟨b, 0, none⟩)])
  have HB0 := Lib.hid ((Below.refl w.heap.size w).alloc (Nat.le_refl _) (.cells #[.pointer (some ⟨b, 0, none⟩)] 26))
  have HZ := Lib.hid (show (w.alloc (.cells #[.pointer (some ⟨b, 0, none⟩)] 26)).heap.size = w.heap.size + 1 by simp)
  go_enter Tryz.func115, Tryz.ntmps115
  go_upto_region 1 with fail
  generalize w.alloc (.cells #[.pointer (some ⟨b, 0, none⟩)] 26) = W0 at *
  have HM0 := Lib.hid (HM.made Tryz.prog 3 W0)
  have HBs := Lib.hid ((Below.refl W0.heap.size W0).alloc (Nat.le_refl _) (.map #[] 0))
  have c0 : W0.cell? ⟨w.heap.size, 0, none⟩ = some (.pointer (some ⟨b, 0, none⟩)) := HX.out.cell 0
  have hlt0 := HX.out.lt
  go_wp2_with (first
    | (with_reducible refine wpList_put _ rfl (.tmp 3) (.const (.int .i64 0)) (.tmp 5) 201 (.inl rfl) Tryz.underlying201 Tryz.underlying3 W0.heap.size 0 _ rfl HM0.out ?_ 0 ?_ rfl (.func (.func 148) #[.pointer (some ⟨b, 0, none⟩)] #[]) rfl ?_
       · simp only [maxLen]; omega
       · decide
       intro w1 hm hg
       have HM1 := Lib.hid hm
       have hb1 := HBs.out.grown hg HBs.out.size (fun j e => by injection e with e; omega)
       have HB1 := Lib.hid hb1
       clear c0
       have c0 : w1.cell? ⟨w.heap.size, 0, none⟩ = some (.pointer (some ⟨b, 0, none⟩)) := (HX.out.below hb1 HX.out.lt).cell 0
       clear hm hg HM0 hb1)
    | (with_reducible refine wpList_put _ rfl (.tmp 3) (.const (.int .i64 1)) (.tmp 6) 201 (.inl rfl) Tryz.underlying201 Tryz.underlying3 W0.heap.size 1 _ rfl HM1.out ?_ 1 ?_ rfl (.func (.func 149) #[] #[.pointer (some ⟨w.heap.size, 0, none⟩)]) rfl ?_
       · simp only [maxLen]; omega
       · decide
       intro w2 hm hg
       have HM2 := Lib.hid hm
       have hb1 := HB1.out.grown hg HB1.out.size (fun j e => by injection e with e; omega)
       have HB2 := Lib.hid hb1
       clear c0
       have c0 : w2.cell? ⟨w.heap.size, 0, none⟩ = some (.pointer (some ⟨b, 0, none⟩)) := (HX.out.below hb1 HX.out.lt).cell 0
       clear hm hg HM1 hb1)
    | (with_reducible refine wpList_put _ rfl (.tmp 3) (.const (.int .i64 9)) (.tmp 7) 201 (.inl rfl) Tryz.underlying201 Tryz.underlying3 W0.heap.size 2 _ rfl HM2.out ?_ 9 ?_ rfl (.func (.func 151) #[] #[.pointer (some ⟨w.heap.size, 0, none⟩)]) rfl ?_
       · simp only [maxLen]; omega
       · decide
       intro w3 hm hg
       have HM3 := Lib.hid hm
       have hb1 := HB2.out.grown hg HB2.out.size (fun j e => by injection e with e; omega)
       have HB3 := Lib.hid hb1
       clear c0
       have c0 : w3.cell? ⟨w.heap.size, 0, none⟩ = some (.pointer (some ⟨b, 0, none⟩)) := (HX.out.below hb1 HX.out.lt).cell 0
       clear hm hg HM2 hb1)
    | (with_reducible refine wpList_put _ rfl (.tmp 3) (.const (.int .i64 5)) (.func 152) 201 (.inl rfl) Tryz.underlying201 Tryz.underlying3 W0.heap.size 3 _ rfl HM3.out ?_ 5 ?_ rfl (.func (.func 152) #[] #[]) rfl ?_
       · simp only [maxLen]; omega
       · decide
       intro w4 hm hg
       have HM4 := Lib.hid hm
       have hb1 := HB3.out.grown hg HB3.out.size (fun j e => by injection e with e; omega)
       have HB4 := Lib.hid hb1
       clear c0
       have c0 : w4.cell? ⟨w.heap.size, 0, none⟩ = some (.pointer (some ⟨b, 0, none⟩)) := (HX.out.below hb1 HX.out.lt).cell 0
       clear hm hg HM3 hb1)
    | (with_reducible refine wpList_put _ rfl (.tmp 3) (.const (.int .i64 3)) (.tmp 8) 201 (.inl rfl) Tryz.underlying201 Tryz.underlying3 W0.heap.size 4 _ rfl HM4.out ?_ 3 ?_ rfl (.func (.func 153) #[] #[.pointer (some ⟨w.heap.size, 0, none⟩)]) rfl ?_
       · simp only [maxLen]; omega
       · decide
       intro w5 hm hg
       have HM5 := Lib.hid hm
       have hb1 := HB4.out.grown hg HB4.out.size (fun j e => by injection e with e; omega)
       have HB5 := Lib.hid hb1
       clear c0
       have c0 : w5.cell? ⟨w.heap.size, 0, none⟩ = some (.pointer (some ⟨b, 0, none⟩)) := (HX.out.below hb1 HX.out.lt).cell 0
       clear hm hg HM4 hb1)
    | (with_reducible refine wpList_put _ rfl (.tmp 3) (.const (.int .i64 4)) (.tmp 10) 201 (.inl rfl) Tryz.underlying201 Tryz.underlying3 W0.heap.size 5 _ rfl HM5.out ?_ 4 ?_ rfl (.func (.func 155) #[.pointer (some ⟨b, 0, none⟩)] #[]) rfl ?_
       · simp only [maxLen]; omega
       · decide
       intro w6 hm hg
       have HM6 := Lib.hid hm
       have hb1 := HB5.out.grown hg HB5.out.size (fun j e => by injection e with e; omega)
       have HB6 := Lib.hid hb1
       clear c0
       have c0 : w6.cell? ⟨w.heap.size, 0, none⟩ = some (.pointer (some ⟨b, 0, none⟩)) := (HX.out.below hb1 HX.out.lt).cell 0
       clear hm hg HM5 hb1)
    | (with_reducible refine wpList_put _ rfl (.tmp 3) (.const (.int .i64 6)) (.tmp 11) 201 (.inl rfl) Tryz.underlying201 Tryz.underlying3 W0.heap.size 6 _ rfl HM6.out ?_ 6 ?_ rfl (.func (.func 156) #[] #[.pointer (some ⟨w.heap.size, 0, none⟩)]) rfl ?_
       · simp only [maxLen]; omega
       · decide
       intro w7 hm hg
       have HM7 := Lib.hid hm
       have hb1 := HB6.out.grown hg HB6.out.size (fun j e => by injection e with e; omega)
       have HB7 := Lib.hid hb1
       clear c0
       have c0 : w7.cell? ⟨w.heap.size, 0, none⟩ = some (.pointer (some ⟨b, 0, none⟩)) := (HX.out.below hb1 HX.out.lt).cell 0
       clear hm hg HM6 hb1)
    | (with_reducible refine wpList_put _ rfl (.tmp 3) (.const (.int .i64 7)) (.tmp 12) 201 (.inl rfl) Tryz.underlying201 Tryz.underlying3 W0.heap.size 7 _ rfl HM7.out ?_ 7 ?_ rfl (.func (.func 157) #[] #[.pointer (some ⟨w.heap.size, 0, none⟩)]) rfl ?_
       · simp only [maxLen]; omega
       · decide
       intro w8 hm hg
       have HM8 := Lib.hid hm
       have hb1 := HB7.out.grown hg HB7.out.size (fun j e => by injection e with e; omega)
       have HB8 := Lib.hid hb1
       clear c0
       have c0 : w8.cell? ⟨w.heap.size, 0, none⟩ = some (.pointer (some ⟨b, 0, none⟩)) := (HX.out.below hb1 HX.out.lt).cell 0
       clear hm hg HM7 hb1)
    | (with_reducible refine wpList_put _ rfl (.tmp 3) (.const (.int .i64 8)) (.tmp 13) 201 (.inl rfl) Tryz.underlying201 Tryz.underlying3 W0.heap.size 8 _ rfl HM8.out ?_ 8 ?_ rfl (.func (.func 158) #[] #[.pointer (some ⟨w.heap.size, 0, none⟩)]) rfl ?_
       · simp only [maxLen]; omega
       · decide
       intro w9 hm hg
       have HM9 := Lib.hid hm
       have hb1 := HB8.out.grown hg HB8.out.size (fun j e => by injection e with e; omega)
       have HB9 := Lib.hid hb1
       clear c0
       have c0 : w9.cell? ⟨w.heap.size, 0, none⟩ = some (.pointer (some ⟨b, 0, none⟩)) := (HX.out.below hb1 HX.out.lt).cell 0
       clear hm hg HM8 hb1)
    | fail)
  go_ret
  have e1 := HZ.out
  refine ⟨by rw [e1]; rfl, HX.out.below HB9.out HX.out.lt, ?_, HB0.out.trans (HB9.out.mono (by omega))⟩
  have h := HM9.out
  rw [e1] at h
  exact h.same fun k => by unfold wkF; rfl
end Go.Proofs.YtkpppjhbmnfmkaaGreatDoor
end

section
namespace Go.Proofs.YtkpppjhbmnfmkaaGreatDoor
open Go.RowKit Go.Own Go.Own.Im Go.Own.Cx Go.Own.Fr
theorem infC_ack : infC { typ := 4, ack := true } (.slice none 0 0) (.slice none 0 0) = #[.int .i64 4, .int .i64 0, .int .i64 0, .bool false, .bool false, .bool true, .bool false, .bool false, .bool false, .int .i64 0, .int .i64 0, .int .i64 0, .int .i64 0, .int .i64 0, .int .i64 0, .int .i64 0, .slice none 0 0, .slice none 0 0] := rfl
theorem flg_ack : flg { typ := 4, ack := true } = 1 := by decide
theorem pay_ack : pay { typ := 4, ack := true } = [] := rfl
theorem evC_plain (k s c l : Nat) (f : Bool) : evC { kind := k, stream := s, code := c, last := l, fin := f } = #[.int .i64 (k : Nat), .int .i64 (s : Nat), .int .i64 (c : Nat), .int .i64 (l : Nat), .bool f, .slice none 0 0, .slice none 0 0] := rfl
theorem evOk_plain (w : World) (ow : Nat → Tg) (k s c l : Nat) (f : Bool) : EvOk w ow { kind := k, stream := s, code := c, last := l, fin := f } :=
  ⟨⟨Nat.le_refl _, Cm.RS.nil, fun h => absurd h (Nat.lt_irrefl _)⟩, ⟨Nat.le_refl _, rd_nil0 w _, fun h => absurd h (Nat.lt_irrefl _)⟩⟩
theorem CPost.trans {w w1 w2 : World} {ow ow1 : Nat → Tg} {b : Nat} {M2 : Cv} {v2 : Value} {e2 : Ending} (h : Fr w ow w1 ow1) (k : CPost w1 ow1 b M2 v2 e2 w2) : CPost w ow b M2 v2 e2 w2 := by
  obtain ⟨ow2, L2, e, hc, hf⟩ := k
  exact ⟨ow2, L2, e, hc, h.trans hf⟩
set_option maxHeartbeats 4000000 in
set_option maxRecDepth 100000 in
/-- Settings without any: they are acknowledged. -/
theorem settings_none (w : World) (ow : Nat → Tg) (b : Nat) (M : Cv) (L : Lay) (i : Inf) (S : Option Addr) (d : Nat) (dv sz : Value) (h : CN w ow b M L) (ha : i.ack = false) (ho : M.out.length ≤ 1000000000) (hn : M.evs.length ≤ 900000) :
    Calls Tryz.prog 155 #[.pointer (some ⟨b, 0, none⟩), .agg (infC i (.slice S 0 d) dv), sz] w (CPost w ow b { M with out := M.out ++ frameB 4 1 0 [], evs := M.evs ++ [{ kind := 7 }] } (.tuple #[])) := by
  have HX := Lib.hid (Blk.new w 91 (infC i (.slice S 0 d) dv))
  have HB0 := Lib.hid ((Below.refl w.heap.size w).alloc (Nat.le_refl _) (.cells (infC i (.slice S 0 d) dv) 91))
  have HC := Lib.hid h
  have HN := Lib.hid hn
  have HO := Lib.hid ho
  have HA := Lib.hid ha
  clear h hn ho ha
  go_enter Tryz.func155, Tryz.ntmps155
  go_upto_region 1 with fail
  generalize w.alloc (.cells (infC i (.slice S 0 d) dv) 91) = W0 at *
  have HC0 := Lib.hid (HC.out.below HB0.out)
  have c5 : W0.cell? ⟨w.heap.size, 5, none⟩ = some (.bool i.ack) := HX.out.cell 5
  rw [HA.out] at c5
  have c16 : W0.cell? ⟨w.heap.size, 16, none⟩ = some (.slice S 0 d) := HX.out.cell 16
  have HP := put_any W0 ow b M L _ _ HC0.out rfl (bld_ack W0) HO.out
  rw [infC_ack, flg_ack, pay_ack] at HP
  have HP := Lib.hid HP
  go_wp2_with fail
  go_loop [60] (fun t => t = .int .i64 0) (fun _ => 0)
  case atStart => rfl
  case round =>
  obtain rfl := hrel
  go_wp2_with (first
    | (go_at_call 39
       refine HP.out.mono ?_
       rintro e w1 ⟨ow1, L1, rfl, hc1, hf1⟩
       have HF1 := Lib.hid ((Fr.below HB0.out ow).trans hf1)
       have HT := tell_any w1 ow1 b _ L1 { kind := 7 } hc1 (evOk_plain _ _ _ _ _ _ _) HN.out
       rw [evC_plain] at HT
       have HT := Lib.hid HT
       clear hc1 hf1)
    | (go_at_call 109
       refine HT.out.mono ?_
       intro e w2 hp
       obtain rfl := hp.ret
       have HQ := Lib.hid hp
       clear hp)
    | fail)
  go_end0
  exact HQ.out.trans HF1.out
end Go.Proofs.YtkpppjhbmnfmkaaGreatDoor
end

section
namespace Go.Proofs.YtkpppjhbmnfmkaaGreatDoor
open Go.RowKit Go.Own Go.Own.Im Go.Own.Cx
section
variable {w w' : World} {ow ow' : Nat → Tg} {b : Nat} {M : Cv} {L : Lay}
/-- A call of a method that leaves the end in one of the states S. -/
def CPostS (w : World) (ow : Nat → Tg) (b : Nat) (S : Cv → Prop) (v : Value) (e : Ending) (w' : World) : Prop := ∃ M', S M' ∧ CPost w ow b M' v e w'
theorem CPostS.ret {v : Value} {e : Ending} {S : Cv → Prop} (h : CPostS w ow b S v e w') : e = .returned v := by
  obtain ⟨_, _, h⟩ := h
  exact h.ret
theorem CPostS.trans {w1 w2 : World} {ow1 : Nat → Tg} {S : Cv → Prop} {v : Value} {e : Ending} (h : Fr w ow w1 ow1) (k : CPostS w1 ow1 b S v e w2) : CPostS w ow b S v e w2 := by
  obtain ⟨M', hs, k⟩ := k
  exact ⟨M', hs, k.trans h⟩
theorem CPostS.out {v : Value} {e : Ending} {S : Cv → Prop} (h : CPostS w ow b S v e w') : ∃ M' ow' L', S M' ∧ CN w' ow' b M' L' ∧ Fr w ow w' ow' := by
  obtain ⟨M', hs, ow', L', _, hc, hf⟩ := h
  exact ⟨M', ow', L', hs, hc, hf⟩
theorem CPostS.of {v : Value} {M' : Cv} {L' : Lay} {S : Cv → Prop} (hs : S M') (hc : CN w' ow' b M' L') (hf : Fr w ow w' ow') : CPostS w ow b S v (.returned v) w' := ⟨M', hs, ow', L', rfl, hc, hf⟩
/-- A call that gives up with a fault, the end in one of the states S. -/
def PPostS (w : World) (ow : Nat → Tg) (b : Nat) (S : Cv → Prop) (c s : Nat) (e : Ending) (w' : World) : Prop := ∃ M' ow' L', S M' ∧ e = .panicked (fltE c s) ∧ CN w' ow' b M' L' ∧ Fr w ow w' ow'
theorem PPostS.ret {c s : Nat} {e : Ending} {S : Cv → Prop} (h : PPostS w ow b S c s e w') : e = .panicked (fltE c s) := by
  obtain ⟨_, _, _, _, h, _⟩ := h
  exact h
theorem PPostS.trans {w1 w2 : World} {ow1 : Nat → Tg} {S : Cv → Prop} {c s : Nat} {e : Ending} (h : Fr w ow w1 ow1) (k : PPostS w1 ow1 b S c s e w2) : PPostS w ow b S c s e w2 := by
  obtain ⟨M', ow', L', hs, he, hc, hf⟩ := k
  exact ⟨M', ow', L', hs, he, hc, h.trans hf⟩
theorem PPostS.out {c s : Nat} {e : Ending} {S : Cv → Prop} (h : PPostS w ow b S c s e w') : ∃ M' ow' L', S M' ∧ CN w' ow' b M' L' ∧ Fr w ow w' ow' := by
  obtain ⟨M', ow', L', hs, _, hc, hf⟩ := h
  exact ⟨M', ow', L', hs, hc, hf⟩
end
end Go.Proofs.YtkpppjhbmnfmkaaGreatDoor
end
