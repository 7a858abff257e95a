/-
  What ConnDead wants besides: CONTINUATION where no list is under way; Feed of a dead end; hello of a client; the runs.
  Contracts: what a dead end answers: each of its eight methods says ErrGone.
  Contracts: what an end refuses: a role, a stream, a number.
  A number's low bits. No program.
  An end that is greeted, of either side; an end that is dead.
-/
import Derived.Test.YtkpppjhbmnfmkaaGreatDoorJu
import Derived.BigQuiet
import Derived.Test.YtkpppjhbmnfmkaaGreatDoorJd
import Derived.Test.YtkpppjhbmnfmkaaGreatDoorL6
set_option linter.unusedSimpArgs false
set_option linter.unusedVariables false
section
namespace Go.Proofs.YtkpppjhbmnfmkaaGreatDoor
open Go.RowKit Go.Own Go.Own.Im Go.Own.Cx Go.Own.Fr
set_option maxHeartbeats 8000000 in
set_option maxRecDepth 100000 in
/-- A CONTINUATION where no list is under way. -/
theorem takes_cont (M : Cv) (f s : Nat) (p : List UInt8) (hg : M.greeted = true) (hl : M.list = none) (hf : f ≤ 255) : TakesP M 9 f s p (fun M' => M' = M) 1 0 := by
  intro w ow b L A c hE h hr hno hc
  have hM : ({ M with greeted := true } : Cv) = M := by
    cases M
    simp only at hg
    subst hg
    rfl
  have HX := Lib.hid (Blk.new w 24 #[.int .i64 9, .int .i64 (f : Nat), .int .i64 (s : Nat), .slice A p.length c])
  have HB0 := Lib.hid ((Below.refl w.heap.size w).alloc (Nat.le_refl _) (.cells #[.int .i64 9, .int .i64 (f : Nat), .int .i64 (s : Nat), .slice A p.length c] 24))
  have HC := Lib.hid h
  have e1 : bits .and .i64 (f : Int) 1 = ((f &&& 1 : Nat) : Int) := and_nat f 1 (by omega) (by omega)
  obtain ⟨q, hq⟩ : ∃ q, f &&& 1 = q := ⟨_, rfl⟩
  rw [hq] at e1
  have HL := Lib.hid (show L.list = .pointer none from by have := h.p.lst; rw [hl] at this; exact this)
  have HGr := Lib.hid hg
  have HM := Lib.hid hM
  clear h hr hno hc hE hg hl hM hf hq
  go_enter Tryz.func72, Tryz.ntmps72
  go_upto_region 1 with fail
  generalize w.alloc (.cells #[.int .i64 9, .int .i64 (f : Nat), .int .i64 (s : Nat), .slice A p.length c] 24) = W0 at *
  have HC0 := Lib.hid (HC.out.below HB0.out)
  have x0 : W0.cell? ⟨w.heap.size, 0, none⟩ = some (.int .i64 9) := HX.out.cell 0
  have x1 : W0.cell? ⟨w.heap.size, 1, none⟩ = some (.int .i64 (f : Nat)) := HX.out.cell 1
  have c4 : W0.cell? ⟨b, 4, none⟩ = some (.bool M.greeted) := HC0.out.blk.cell 4
  rw [HGr.out] at c4
  have f4 := HC0.out.blk.frozen 4
  go_upto_region 5 with fail
  have hgt := HC0.out.greets
  rw [HM.out] at hgt
  have HC1 := Lib.hid hgt.1
  have HF1 := Lib.hid ((Fr.below HB0.out ow).trans hgt.2)
  have HX1 := Lib.hid (HX.out.far (p := ⟨b, 4, none⟩) (by have := HC.out.blk.lt; show w.heap.size ≠ b; omega) (.bool true))
  clear hgt x0 x1 c4 f4
  generalize W0.setCell ⟨b, 4, none⟩ (.bool true) = W1 at *
  have x0 : W1.cell? ⟨w.heap.size, 0, none⟩ = some (.int .i64 9) := HX1.out.cell 0
  have c16 : W1.cell? ⟨b, 16, none⟩ = some L.list := HC1.out.blk.cell 16
  rw [HL.out] at c16
  go_wp2_with fail
  go_quiet (fail)
  go_wp2_with fail
  refine (give_any 1 0 _).mono ?_
  rintro e w2 ⟨rfl, hw⟩
  subst w2
  go_wp2
  exact ⟨rfl, M, ow, L, rfl, rfl, HC1.out.drewN _, HF1.out.trans (Fr.drewN _ ow _)⟩
set_option maxHeartbeats 4000000 in
set_option maxRecDepth 100000 in
/-- A dead end takes nothing. -/
theorem feed_dead (w : World) (ow : Nat → Tg) (b : Nat) (M : Cv) (L : Lay) (v : Value) (h : CN w ow b M L) (hd : M.dead = true) : Calls Tryz.prog 10 #[.pointer (some ⟨b, 0, none⟩), v] w (FeedPost w ow b (fun M' => M' = { M with evs := [] })) := by
  have hu := h.unevs
  have HC0 := Lib.hid hu.1
  have HF0 := Lib.hid hu.2
  have f7 := h.blk.frozen 7
  have c7 : w.cell? ⟨b, 7, none⟩ = some L.ev := h.blk.cell 7
  have HD := Lib.hid hd
  clear h hd hu
  go_enter Tryz.func10, Tryz.ntmps10
  go_upto_region 2 with fail
  generalize w.setCell ⟨b, 7, none⟩ (.slice none 0 0) = W0 at *
  have d19 : W0.cell? ⟨b, 19, none⟩ = some (.bool M.dead) := HC0.out.blk.cell 19
  rw [HD.out] at d19
  obtain ⟨Ae, ce, hLe, HH⟩ := HC0.out.handed
  have hLe : Value.slice none 0 0 = .slice Ae 0 ce := hLe
  injection hLe with e1 e2 e3
  subst e1 e3
  have HHa := Lib.hid (HH w ow HF0.out (fun M' => M' = { M with evs := [] }) rfl)
  have e7 : W0.cell? ⟨b, 7, none⟩ = some (.slice none 0 0) := HC0.out.blk.cell 7
  have ef7 := HC0.out.blk.frozen 7
  clear c7 f7 HH
  go_upto_region 4 with fail
  go_loopw [23] (fun _ wr => wr = W0) (fun _ _ => 0)
  case atStart => rfl
  case round =>
    obtain rfl := hrel
    go_wp2
    go_ret
    exact HHa.out
set_option maxHeartbeats 1000000 in
theorem hello1_any (w : World) : Calls Tryz.prog 11 #[.int .i64 1] w fun e w' => ∃ A c, e = .returned (.slice A 9 c) ∧ Oz w' (fun g => w.heap.size ≤ g) (.slice A 9 c) (frameB 4 0 0 []) ∧ Below w.heap.size w w' := by
  have HF := Lib.hid (lawFrame_any none 0 0 4 0 0 w.heap.size [] w ⟨rfl, fun h => absurd h (by omega)⟩ (Nat.le_refl _) (by omega) (by omega) (by omega) (by omega))
  go_enter Tryz.func11, Tryz.ntmps11
  go_wp2_with fail
  refine HF.out.mono ?_
  rintro e w1 ⟨A1, c1, rfl, ho1, hb1⟩
  have HO1 := Lib.hid (Oz.of_ow (own := fun g => w.heap.size ≤ g) ho1 (fun g hg => (ho1.lt hg).2))
  have HB1 := Lib.hid hb1
  clear ho1 hb1
  go_wp2
  go_ret
  exact ⟨A1, c1, rfl, HO1.out, HB1.out⟩
/-- The other side's greeting, to a server. -/
theorem runs_hello2 (M : Cv) (hd : M.dead = false) (hl : M.list = none) (ho : M.out.length ≤ 1000000000) (hn : M.evs.length ≤ 900000) : Runs 26 { M with preface := 0, fed := prefB ++ frameB 4 0 0 [] } (fun M' => M' = setM { M with preface := 24, fed := [] }) := by
  refine runs_pref (n := 2) M (frameB 4 0 0 []) hd ?_ 24 (Nat.le_refl _)
  refine .more hd (step_takes _ _ 4 0 0 [] [] rfl (by show frameB 4 0 0 [] = _; rw [List.append_nil]) (by decide) (by decide) (by decide) (by decide) (takes_set _ hl ho hn)) fun M1 h1 => ?_
  subst h1
  exact .stop hd ((step_few _ rfl (by show ([] : List UInt8).length < 9; decide)).mono fun M' h' => h')
/-- The other side's greeting, to a client. -/
theorem runs_hello1 (M : Cv) (hp : M.preface = 24) (hd : M.dead = false) (hl : M.list = none) (ho : M.out.length ≤ 1000000000) (hn : M.evs.length ≤ 900000) : Runs 2 { M with fed := frameB 4 0 0 [] } (fun M' => M' = setM { M with fed := [] }) := by
  refine .more hd (step_takes _ _ 4 0 0 [] [] hp (by show frameB 4 0 0 [] = _; rw [List.append_nil]) (by decide) (by decide) (by decide) (by decide) (takes_set _ hl ho hn)) fun M1 h1 => ?_
  subst h1
  exact .stop hd ((step_few (setM { M with fed := [] }) hp (by show ([] : List UInt8).length < 9; decide)).mono fun M' h' => h')
/-- A CONTINUATION out of place kills. -/
theorem runs_cont (M : Cv) (f s : Nat) (hp : M.preface = 24) (hd : M.dead = false) (hg : M.greeted = true) (hl : M.list = none) (hf : f ≤ 255) (hs : s ≤ 2147483647) (hla : M.last ≤ 2147483647) (ho : M.out.length ≤ 1000000000) (hn : M.evs.length ≤ 900000) : Runs 1 { M with fed := frameB 9 f s [] } (fun M' => M' = deadM { M with fed := [] } 1) := by
  refine .more hd (step_panics _ (fun M' => M' = { M with fed := [] }) (fun M' => M' = deadM { M with fed := [] } 1) 9 f s 1 0 [] [] hp (by show frameB 9 f s [] = _; rw [List.append_nil]) (by decide) hf hs (by decide) (takes_cont { M with fed := [] } f s [] hg hl hf) (fun M1 h1 => ?_)) fun M1 h1 => ?_
  · subst h1
    exact fault_dead { M with fed := [] } 1 (by decide) hla ho hn
  · subst h1
    exact .dead rfl rfl
end Go.Proofs.YtkpppjhbmnfmkaaGreatDoor
end

section
namespace Go.Proofs.YtkpppjhbmnfmkaaGreatDoor
open Go.RowKit Go.Own Go.Own.Im Go.Own.Cx Go.Own.Fr
/-- A call that only answers. -/
def Says (w : World) (v : Value) (e : Ending) (w' : World) : Prop := e = .returned v ∧ ∃ n, w' = w.drewN n
theorem says0 (w : World) (v : Value) : Says w v (.returned v) w := ⟨rfl, 0, rfl⟩
theorem saysN (w : World) (v : Value) (n : Nat) : Says w v (.returned v) (w.drewN n) := ⟨rfl, n, rfl⟩
abbrev goneV (a : Addr) : Value := .iface 327 (.pointer (some a))
def GoneAt (w : World) (a : Addr) : Prop := w.cell? ⟨3, 0, none⟩ = some (goneV a)
section
variable {w : World} {ow : Nat → Tg} {b : Nat} {M : Cv} {L : Lay} {a : Addr}
theorem at_nil (L : Lay) (id : Int) (h : M.strs = []) : atI (M.strs.map (·.id)) (sptr L) (.pointer none) id = .pointer none := by rw [h]; rfl
set_option maxHeartbeats 1000000 in
theorem open_dead (h : CN w ow b M L) (hd : M.dead = true) (hg : GoneAt w a) (l fin : Value) : Calls Tryz.prog 29 #[.pointer (some ⟨b, 0, none⟩), l, fin] w (Says w (.tuple #[.int .i64 0, goneV a])) := by
  have c19 : w.cell? ⟨b, 19, none⟩ = some (.bool M.dead) := h.blk.cell 19
  rw [hd] at c19
  unfold GoneAt at hg
  clear h hd
  go_enter Tryz.func29, Tryz.ntmps29
  go_wp2_with fail
  (try (go_quiet (fail)))
  (try go_wp2)
  first | go_ret | go_ret2
  first | exact says0 _ _ | exact saysN _ _ _
set_option maxHeartbeats 1000000 in
theorem sending_dead (h : CN w ow b M L) (hd : M.dead = true) (hs : M.strs = []) (hg : GoneAt w a) (id : Int) (hw : (Lit.int .i64 id).wf = true) : Calls Tryz.prog 62 #[.pointer (some ⟨b, 0, none⟩), .int .i64 id] w (Says w (.tuple #[.pointer none, goneV a])) := by
  have c19 : w.cell? ⟨b, 19, none⟩ = some (.bool M.dead) := h.blk.cell 19
  have c15 : w.cell? ⟨b, 15, none⟩ = some (.map (some L.mb)) := h.blk.cell 15
  have hlk := look_str h id hw
  rw [at_nil L id hs] at hlk
  rw [hd] at c19
  unfold GoneAt at hg
  clear h hd
  go_enter Tryz.func62, Tryz.ntmps62
  go_wp2_with fail
  (try (go_quiet (fail)))
  (try go_wp2)
  first | go_ret | go_ret2
  first | exact says0 _ _ | exact saysN _ _ _
theorem drewN_add (w : World) (n m : Nat) : (w.drewN n).drewN m = w.drewN (n + m) := by
  simp only [World.drewN, Nat.add_assoc]
set_option maxHeartbeats 1000000 in
/-- An error of sending, or there, is handed on. -/
theorem send_err {v : Value} {id : Int} (hs : Calls Tryz.prog 62 #[.pointer (some ⟨b, 0, none⟩), .int .i64 id] w (Says w (.tuple #[v, goneV a]))) (l fin : Value) : Calls Tryz.prog 30 #[.pointer (some ⟨b, 0, none⟩), .int .i64 id, l, fin] w (Says w (goneV a)) := by
  go_enter Tryz.func30, Tryz.ntmps30
  go_wp2_with fail
  refine hs.mono ?_
  rintro e w1 ⟨rfl, n, rfl⟩
  go_wp2_with fail
  (try (go_quiet (fail)))
  (try go_wp2)
  first | go_ret | go_ret2
  first | exact saysN _ _ _ | exact ⟨rfl, _, drewN_add _ _ _⟩
end
end Go.Proofs.YtkpppjhbmnfmkaaGreatDoor
end

section
namespace Go.Proofs.YtkpppjhbmnfmkaaGreatDoor
open Go.RowKit Go.Own Go.Own.Im Go.Own.Cx Go.Own.Fr
def RoleAt (w : World) (a : Addr) : Prop := w.cell? ⟨1, 0, none⟩ = some (goneV a)
def StreamAt (w : World) (a : Addr) : Prop := w.cell? ⟨7, 0, none⟩ = some (goneV a)
def NumAt (w : World) (a : Addr) : Prop := w.cell? ⟨2, 0, none⟩ = some (goneV a)
section
variable {w : World} {ow : Nat → Tg} {b : Nat} {M : Cv} {L : Lay} {a : Addr}
set_option maxHeartbeats 1000000 in
theorem open_role (h : CN w ow b M L) (hd : M.dead = false) (hs : M.side = 2) (hg : RoleAt w a) (l fin : Value) : Calls Tryz.prog 29 #[.pointer (some ⟨b, 0, none⟩), l, fin] w (Says w (.tuple #[.int .i64 0, goneV a])) := by
  have c19 : w.cell? ⟨b, 19, none⟩ = some (.bool M.dead) := h.blk.cell 19
  have c0 : w.cell? ⟨b, 0, none⟩ = some (.int .i64 (M.side : Nat)) := h.blk.cell 0
  rw [hd] at c19
  rw [hs] at c0
  unfold RoleAt at hg
  clear h hd hs
  go_enter Tryz.func29, Tryz.ntmps29
  go_wp2_with fail
  (try (go_quiet (fail)))
  (try go_wp2)
  first | go_ret | go_ret2
  first | exact says0 _ _ | exact saysN _ _ _
set_option maxHeartbeats 1000000 in
/-- A client that was told GOAWAY, or said Bye, opens nothing. -/
theorem open_gone (h : CN w ow b M L) (hd : M.dead = false) (hs : M.side = 1) (hb : M.gone = true ∨ M.gone = false ∧ M.bye = true) (hg : GoneAt w a) (l fin : Value) : Calls Tryz.prog 29 #[.pointer (some ⟨b, 0, none⟩), l, fin] w (Says w (.tuple #[.int .i64 0, goneV a])) := by
  have c19 : w.cell? ⟨b, 19, none⟩ = some (.bool M.dead) := h.blk.cell 19
  have c0 : w.cell? ⟨b, 0, none⟩ = some (.int .i64 (M.side : Nat)) := h.blk.cell 0
  have c18 : w.cell? ⟨b, 18, none⟩ = some (.bool M.gone) := h.blk.cell 18
  have c17 : w.cell? ⟨b, 17, none⟩ = some (.bool M.bye) := h.blk.cell 17
  rw [hd] at c19
  rw [hs] at c0
  unfold GoneAt at hg
  rcases hb with h1 | ⟨h1, h2⟩
  · rw [h1] at c18
    clear h hd hs h1
    go_enter Tryz.func29, Tryz.ntmps29
    go_wp2_with fail
    (try (go_quiet (fail)))
    (try go_wp2)
    first | go_ret | go_ret2
    first | exact says0 _ _ | exact saysN _ _ _
  · rw [h1] at c18
    rw [h2] at c17
    clear h hd hs h1 h2
    go_enter Tryz.func29, Tryz.ntmps29
    go_wp2_with fail
    (try (go_quiet (fail)))
    (try go_wp2)
    first | go_ret | go_ret2
    first | exact says0 _ _ | exact saysN _ _ _
set_option maxHeartbeats 1000000 in
theorem sending_none (h : CN w ow b M L) (hd : M.dead = false) (hs : M.strs = []) (hg : StreamAt w a) (id : Int) (hw : (Lit.int .i64 id).wf = true) : Calls Tryz.prog 62 #[.pointer (some ⟨b, 0, none⟩), .int .i64 id] w (Says w (.tuple #[.pointer none, goneV a])) := by
  have c19 : w.cell? ⟨b, 19, none⟩ = some (.bool M.dead) := h.blk.cell 19
  have c15 : w.cell? ⟨b, 15, none⟩ = some (.map (some L.mb)) := h.blk.cell 15
  have hlk := look_str h id hw
  rw [at_nil L id hs] at hlk
  rw [hd] at c19
  unfold StreamAt at hg
  clear h hd
  go_enter Tryz.func62, Tryz.ntmps62
  go_wp2_with fail
  (try (go_quiet (fail)))
  (try go_wp2)
  first | go_ret | go_ret2
  first | exact says0 _ _ | exact saysN _ _ _
set_option maxHeartbeats 1000000 in
/-- A stream that may not be sent to any more. -/
theorem sending_shut (h : CN w ow b M L) (hd : M.dead = false) (s : Sv) (id : Int) (hs : strAt M id = some s) (ho : s.own ≠ 1) (hg : StreamAt w a) (hw : (Lit.int .i64 id).wf = true) : Calls Tryz.prog 62 #[.pointer (some ⟨b, 0, none⟩), .int .i64 id] w (Says w (.tuple #[.pointer none, goneV a])) := by
  have c19 : w.cell? ⟨b, 19, none⟩ = some (.bool M.dead) := h.blk.cell 19
  have c15 : w.cell? ⟨b, 15, none⟩ = some (.map (some L.mb)) := h.blk.cell 15
  have hlk := look_str h id hw
  obtain ⟨h1, h2, h3⟩ := at_some (L := L) hs
  rw [h1] at hlk
  have d1 : w.cell? ⟨(L.s s.id).sb, 1, none⟩ = some (.int .i64 (s.own : Nat)) := (h.p.strs s h2).blk.cell 1
  have k1 : ((s.own : Int) != 1) = true := by simp; omega
  have k2 : ((s.own : Int) == 1) = false := by simp; omega
  have k3 : ¬ (s.own : Int) = 1 := by omega
  rw [hd] at c19
  unfold StreamAt at hg
  generalize (L.s s.id).sb = sb at *
  generalize (s.own : Int) = o at *
  clear h hd h1 h2 h3 ho hs
  go_enter Tryz.func62, Tryz.ntmps62
  go_wp2_with fail
  (try (go_quiet (fail)))
  (try go_wp2)
  first | go_ret | go_ret2
  first | exact says0 _ _ | exact saysN _ _ _
set_option maxHeartbeats 1000000 in
/-- A stream that may be sent to. -/
theorem sending_ok (h : CN w ow b M L) (hd : M.dead = false) (s : Sv) (id : Int) (hs : strAt M id = some s) (ho : s.own = 1) (hw : (Lit.int .i64 id).wf = true) : Calls Tryz.prog 62 #[.pointer (some ⟨b, 0, none⟩), .int .i64 id] w (Says w (.tuple #[.pointer (some ⟨(L.s s.id).sb, 0, none⟩), .nilIface])) := by
  have c19 : w.cell? ⟨b, 19, none⟩ = some (.bool M.dead) := h.blk.cell 19
  have c15 : w.cell? ⟨b, 15, none⟩ = some (.map (some L.mb)) := h.blk.cell 15
  have hlk := look_str h id hw
  obtain ⟨h1, h2, h3⟩ := at_some (L := L) hs
  rw [h1] at hlk
  have d1 : w.cell? ⟨(L.s s.id).sb, 1, none⟩ = some (.int .i64 (s.own : Nat)) := (h.p.strs s h2).blk.cell 1
  rw [ho] at d1
  rw [hd] at c19
  generalize (L.s s.id).sb = sb at *
  clear h hd h1 h2 h3 ho hs
  go_enter Tryz.func62, Tryz.ntmps62
  go_wp2_with fail
  (try (go_quiet (fail)))
  (try go_wp2)
  first | go_ret | go_ret2
  first | exact says0 _ _ | exact saysN _ _ _
end
end Go.Proofs.YtkpppjhbmnfmkaaGreatDoor
end

section
namespace Go.Own.Fr
open Go Go.RowKit
theorem and_mask (x : Int) (m : Nat) (hm : m < 9223372036854775808) : ∃ q : Nat, q ≤ m ∧ bits .and .i64 x (m : Int) = (q : Int) := by
  refine ⟨(BitVec.ofInt 64 x).toNat &&& m, Nat.and_le_right, ?_⟩
  have hx : (BitVec.ofInt 64 x).toNat &&& m ≤ m := Nat.and_le_right
  show IntKind.i64.wrap ((BitVec.ofInt 64 x &&& BitVec.ofInt 64 (m : Int)).toNat : Int) = _
  rw [BitVec.toNat_and, ofInt_i64 m hm, IntKind.wrap_i64]
  omega
end Go.Own.Fr
end

section
namespace Go.Proofs.YtkpppjhbmnfmkaaGreatDoor
open Go.RowKit Go.Own Go.Own.Im Go.Own.Cx Go.Own.Fr Go.Own.Hd
/-- A side that there is. -/
def SideOk (s : Nat) : Prop := s = 1 ∨ s = 2
/-- What the other side of a side sends first. -/
def hB (s : Nat) : List UInt8 := if s = 1 then frameB 4 0 0 [] else prefB ++ frameB 4 0 0 []
theorem helloS_any (s : Nat) (hs : s = 1 ∨ s = 2) (w : World) : Calls Tryz.prog 11 #[.int .i64 (s : Nat)] w fun e w' => ∃ A n c, e = .returned (.slice A n c) ∧ n ≤ 33 ∧ Oz w' (fun g => w.heap.size ≤ g) (.slice A n c) (hB s) ∧ Below w.heap.size w w' := by
  rcases hs with rfl | rfl
  · refine (hello1_any w).mono ?_
    rintro e w' ⟨A, c, h1, h2, h3⟩
    exact ⟨A, 9, c, h1, by decide, h2, h3⟩
  · refine (hello2_any w).mono ?_
    rintro e w' ⟨A, c, h1, h2, h3⟩
    exact ⟨A, 33, c, h1, by decide, h2, h3⟩
theorem newS_any (s : Nat) (hs : s = 1 ∨ s = 2) (w : World) (cw cs : Nat) (hw : cw ≤ 2147483647) (hc : cs ≤ 100) :
    Calls Tryz.prog 9 #[.int .i64 (s : Nat), .agg #[.int .i64 (cw : Nat), .int .i64 (cs : Nat)]] w fun e w' => ∃ b ow L, e = .returned (.tuple #[.pointer (some ⟨b, 0, none⟩), .nilIface]) ∧ CN w' ow b (newM s cw cs) L ∧ Below w.heap.size w w' ∧ ∀ g, g < w.heap.size → ow g = .no := by
  rcases hs with rfl | rfl
  · exact new1_any w cw cs hw hc
  · exact new2_any w cw cs hw hc
/-- An end that was greeted. -/
def gM (s cs : Nat) : Cv := { setM { newM s 65535 cs with preface := 24 } with evs := [] }
theorem Runs.le {n : Nat} {M : Cv} {S : Cv → Prop} (h : Runs n M S) : ∀ {m : Nat}, n ≤ m → Runs m M S := by
  induction h with
  | dead h1 h2 => exact fun _ => .dead h1 h2
  | stop h1 h2 => exact fun _ => .stop h1 h2
  | more h1 h2 _ ih =>
    intro m hm
    obtain ⟨m', rfl⟩ : ∃ m', m = m' + 1 := ⟨m - 1, by omega⟩
    exact .more h1 h2 fun M1 h => ih M1 h (by omega)
theorem runs_helloS (s cs : Nat) (hs : s = 1 ∨ s = 2) : Runs 26 { newM s 65535 cs with evs := [], fed := (newM s 65535 cs).fed ++ hB s } (fun M' => M' = setM { newM s 65535 cs with preface := 24 }) := by
  have h0 : ∀ s cs, (newM s 65535 cs).out.length ≤ 1000 := fun s cs => by
    unfold newM newM0
    simp only [List.length_append]
    split <;> simp [frameB, setB, be, prefB]
  rcases hs with rfl | rfl
  · exact (runs_hello1 (newM 1 65535 cs) rfl rfl rfl (by have := h0 1 cs; omega) (by show 0 ≤ _; omega)).le (by omega)
  · exact runs_hello2 (newM 2 65535 cs) rfl rfl (by have := h0 2 cs; omega) (by show 0 ≤ _; omega)
/-- An end that is dead. -/
def dM (s cs : Nat) : Cv := { deadM (gM s cs) 1 with evs := [] }
theorem gM_out (s cs : Nat) : (gM s cs).out.length ≤ 1000 := by
  unfold gM setM newM newM0
  simp only [List.length_append]
  split <;> simp [frameB, setB, be, prefB]
theorem runs_contS (s cs : Nat) : Runs 1 { gM s cs with evs := [], fed := (gM s cs).fed ++ frameB 9 4 1 [] } (fun M' => M' = deadM (gM s cs) 1) :=
  runs_cont (gM s cs) 4 1 rfl rfl rfl rfl (by decide) (by decide) (by show 0 ≤ _; omega) (by have := gM_out s cs; omega) (by show 0 ≤ _; omega)
theorem gM_evs (s cs : Nat) : (setM { newM s 65535 cs with preface := 24 }).evs.length = 1 := rfl
end Go.Proofs.YtkpppjhbmnfmkaaGreatDoor
end
