/-
  What ConnDead wants besides: CONTINUATION where no list is under way; Feed of a dead end; hello of a client; the runs.
  Contracts: what a dead end answers: each of its eight methods says ErrGone.
  Contracts: what an end refuses: a role, a stream, a number.
  A number's low bits. No program.
-/
import Derived.Test.YtdkfbkjmhgbppaaGreatDoorJu
import Derived.BigQuiet
import Derived.Test.YtdkfbkjmhgbppaaGreatDoorJd
set_option linter.unusedSimpArgs false
set_option linter.unusedVariables false
section
namespace Go.Proofs.YtdkfbkjmhgbppaaGreatDoor
open Go.RowKit Go.Own Go.Own.Im Go.Own.Cx Go.Own.Fr
set_option maxHeartbeats 8000000 in
set_option maxRecDepth 100000 in
/-- A CONTINUATION where no list is under way. -/
theorem takes_cont (M : Cv) (f s : Nat) (p : List UInt8) (hg : M.greeted = true) (hl : M.list = none) (hf : f ≤ 255) : TakesP M 9 f s p (fun M' => M' = M) 1 0 := by
  intro w ow b L A c hE h hr hno hc
  have hM : ({ M with greeted := true } : Cv) = M := by
    cases M
    simp only at hg
    subst hg
    rfl
  have HX := Lib.hid (Blk.new w 86 #[.int .i64 9, .int .i64 (f : Nat), .int .i64 (s : Nat), .slice A p.length c])
  have HB0 := Lib.hid ((Below.refl w.heap.size w).alloc (Nat.le_refl _) (.cells #[.int .i64 9, .int .i64 (f : Nat), .int .i64 (s : Nat), .slice A p.length c] 86))
  have HC := Lib.hid h
  have e1 : bits .and .i64 (f : Int) 1 = ((f &&& 1 : Nat) : Int) := and_nat f 1 (by omega) (by omega)
  obtain ⟨q, hq⟩ : ∃ q, f &&& 1 = q := ⟨_, rfl⟩
  rw [hq] at e1
  have HL := Lib.hid (show L.list = .pointer none from by have := h.p.lst; rw [hl] at this; exact this)
  have HGr := Lib.hid hg
  have HM := Lib.hid hM
  clear h hr hno hc hE hg hl hM hf hq
  go_enter Tryz.func69, Tryz.ntmps69
  go_upto_region 1 with fail
  generalize w.alloc (.cells #[.int .i64 9, .int .i64 (f : Nat), .int .i64 (s : Nat), .slice A p.length c] 86) = W0 at *
  have HC0 := Lib.hid (HC.out.below HB0.out)
  have x0 : W0.cell? ⟨w.heap.size, 0, none⟩ = some (.int .i64 9) := HX.out.cell 0
  have x1 : W0.cell? ⟨w.heap.size, 1, none⟩ = some (.int .i64 (f : Nat)) := HX.out.cell 1
  have c4 : W0.cell? ⟨b, 4, none⟩ = some (.bool M.greeted) := HC0.out.blk.cell 4
  rw [HGr.out] at c4
  have f4 := HC0.out.blk.frozen 4
  go_upto_region 5 with fail
  have hgt := HC0.out.greets
  rw [HM.out] at hgt
  have HC1 := Lib.hid hgt.1
  have HF1 := Lib.hid ((Fr.below HB0.out ow).trans hgt.2)
  have HX1 := Lib.hid (HX.out.far (p := ⟨b, 4, none⟩) (by have := HC.out.blk.lt; show w.heap.size ≠ b; omega) (.bool true))
  clear hgt x0 x1 c4 f4
  generalize W0.setCell ⟨b, 4, none⟩ (.bool true) = W1 at *
  have x0 : W1.cell? ⟨w.heap.size, 0, none⟩ = some (.int .i64 9) := HX1.out.cell 0
  have c16 : W1.cell? ⟨b, 16, none⟩ = some L.list := HC1.out.blk.cell 16
  rw [HL.out] at c16
  go_wp2_with fail
  go_quiet (fail)
  go_wp2_with fail
  refine (give_any 1 0 _).mono ?_
  rintro e w2 ⟨rfl, hw⟩
  subst w2
  go_wp2
  exact ⟨rfl, M, ow, L, rfl, rfl, HC1.out.drewN _, HF1.out.trans (Fr.drewN _ ow _)⟩
set_option maxHeartbeats 4000000 in
set_option maxRecDepth 100000 in
/-- A dead end takes nothing. -/
theorem feed_dead (w : World) (ow : Nat → Tg) (b : Nat) (M : Cv) (L : Lay) (v : Value) (h : CN w ow b M L) (hd : M.dead = true) : Calls Tryz.prog 12 #[.pointer (some ⟨b, 0, none⟩), v] w (FeedPost w ow b (fun M' => M' = { M with evs := [] })) := by
  have hu := h.unevs
  have HC0 := Lib.hid hu.1
  have HF0 := Lib.hid hu.2
  have f7 := h.blk.frozen 7
  have c7 : w.cell? ⟨b, 7, none⟩ = some L.ev := h.blk.cell 7
  have HD := Lib.hid hd
  clear h hd hu
  go_enter Tryz.func12, Tryz.ntmps12
  go_upto_region 2 with fail
  generalize w.setCell ⟨b, 7, none⟩ (.slice none 0 0) = W0 at *
  have d19 : W0.cell? ⟨b, 19, none⟩ = some (.bool M.dead) := HC0.out.blk.cell 19
  rw [HD.out] at d19
  obtain ⟨Ae, ce, hLe, HH⟩ := HC0.out.handed
  have hLe : Value.slice none 0 0 = .slice Ae 0 ce := hLe
  injection hLe with e1 e2 e3
  subst e1 e3
  have HHa := Lib.hid (HH w ow HF0.out (fun M' => M' = { M with evs := [] }) rfl)
  have e7 : W0.cell? ⟨b, 7, none⟩ = some (.slice none 0 0) := HC0.out.blk.cell 7
  have ef7 := HC0.out.blk.frozen 7
  clear c7 f7 HH
  go_upto_region 4 with fail
  go_loopw [23] (fun _ wr => wr = W0) (fun _ _ => 0)
  case atStart => rfl
  case round =>
    obtain rfl := hrel
    go_wp2
    go_ret
    exact HHa.out
set_option maxHeartbeats 1000000 in
theorem hello1_any (w : World) : Calls Tryz.prog 13 #[.int .i64 1] w fun e w' => ∃ A c, e = .returned (.slice A 9 c) ∧ Oz w' (fun g => w.heap.size ≤ g) (.slice A 9 c) (frameB 4 0 0 []) ∧ Below w.heap.size w w' := by
  have HF := Lib.hid (lawFrame_any none 0 0 4 0 0 w.heap.size [] w ⟨rfl, fun h => absurd h (by omega)⟩ (Nat.le_refl _) (by omega) (by omega) (by omega) (by omega))
  go_enter Tryz.func13, Tryz.ntmps13
  go_wp2_with fail
  refine HF.out.mono ?_
  rintro e w1 ⟨A1, c1, rfl, ho1, hb1⟩
  have HO1 := Lib.hid (Oz.of_ow (own := fun g => w.heap.size ≤ g) ho1 (fun g hg => (ho1.lt hg).2))
  have HB1 := Lib.hid hb1
  clear ho1 hb1
  go_wp2
  go_ret
  exact ⟨A1, c1, rfl, HO1.out, HB1.out⟩
/-- The other side's greeting, to a server. -/
theorem runs_hello2 (M : Cv) (hd : M.dead = false) (hl : M.list = none) (ho : M.out.length ≤ 1000000000) (hn : M.evs.length ≤ 900000) : Runs 26 { M with preface := 0, fed := prefB ++ frameB 4 0 0 [] } (fun M' => M' = setM { M with preface := 24, fed := [] }) := by
  refine runs_pref (n := 2) M (frameB 4 0 0 []) hd ?_ 24 (Nat.le_refl _)
  refine .more hd (step_takes _ _ 4 0 0 [] [] rfl (by show frameB 4 0 0 [] = _; rw [List.append_nil]) (by decide) (by decide) (by decide) (by decide) (takes_set _ hl ho hn)) fun M1 h1 => ?_
  subst h1
  exact .stop hd ((step_few _ rfl (by show ([] : List UInt8).length < 9; decide)).mono fun M' h' => h')
/-- The other side's greeting, to a client. -/
theorem runs_hello1 (M : Cv) (hp : M.preface = 24) (hd : M.dead = false) (hl : M.list = none) (ho : M.out.length ≤ 1000000000) (hn : M.evs.length ≤ 900000) : Runs 2 { M with fed := frameB 4 0 0 [] } (fun M' => M' = setM { M with fed := [] }) := by
  refine .more hd (step_takes _ _ 4 0 0 [] [] hp (by show frameB 4 0 0 [] = _; rw [List.append_nil]) (by decide) (by decide) (by decide) (by decide) (takes_set _ hl ho hn)) fun M1 h1 => ?_
  subst h1
  exact .stop hd ((step_few (setM { M with fed := [] }) hp (by show ([] : List UInt8).length < 9; decide)).mono fun M' h' => h')
/-- A CONTINUATION out of place kills. -/
theorem runs_cont (M : Cv) (f s : Nat) (hp : M.preface = 24) (hd : M.dead = false) (hg : M.greeted = true) (hl : M.list = none) (hf : f ≤ 255) (hs : s ≤ 2147483647) (hla : M.last ≤ 2147483647) (ho : M.out.length ≤ 1000000000) (hn : M.evs.length ≤ 900000) : Runs 1 { M with fed := frameB 9 f s [] } (fun M' => M' = deadM { M with fed := [] } 1) := by
  refine .more hd (step_panics _ (fun M' => M' = { M with fed := [] }) (fun M' => M' = deadM { M with fed := [] } 1) 9 f s 1 0 [] [] hp (by show frameB 9 f s [] = _; rw [List.append_nil]) (by decide) hf hs (by decide) (takes_cont { M with fed := [] } f s [] hg hl hf) (fun M1 h1 => ?_)) fun M1 h1 => ?_
  · subst h1
    exact fault_dead { M with fed := [] } 1 (by decide) hla ho hn
  · subst h1
    exact .dead rfl rfl
end Go.Proofs.YtdkfbkjmhgbppaaGreatDoor
end

section
namespace Go.Proofs.YtdkfbkjmhgbppaaGreatDoor
open Go.RowKit Go.Own Go.Own.Im Go.Own.Cx Go.Own.Fr
/-- A call that only answers. -/
def Says (w : World) (v : Value) (e : Ending) (w' : World) : Prop := e = .returned v ∧ ∃ n, w' = w.drewN n
theorem says0 (w : World) (v : Value) : Says w v (.returned v) w := ⟨rfl, 0, rfl⟩
theorem saysN (w : World) (v : Value) (n : Nat) : Says w v (.returned v) (w.drewN n) := ⟨rfl, n, rfl⟩
abbrev goneV (a : Addr) : Value := .iface 266 (.pointer (some a))
def GoneAt (w : World) (a : Addr) : Prop := w.cell? ⟨1, 0, none⟩ = some (goneV a)
section
variable {w : World} {ow : Nat → Tg} {b : Nat} {M : Cv} {L : Lay} {a : Addr}
theorem at_nil (L : Lay) (id : Int) (h : M.strs = []) : atI (M.strs.map (·.id)) (sptr L) (.pointer none) id = .pointer none := by rw [h]; rfl
set_option maxHeartbeats 1000000 in
theorem open_dead (h : CN w ow b M L) (hd : M.dead = true) (hg : GoneAt w a) (l fin : Value) : Calls Tryz.prog 22 #[.pointer (some ⟨b, 0, none⟩), l, fin] w (Says w (.tuple #[.int .i64 0, goneV a])) := by
  have c19 : w.cell? ⟨b, 19, none⟩ = some (.bool M.dead) := h.blk.cell 19
  rw [hd] at c19
  unfold GoneAt at hg
  clear h hd
  go_enter Tryz.func22, Tryz.ntmps22
  go_wp2_with fail
  (try (go_quiet (fail)))
  (try go_wp2)
  first | go_ret | go_ret2
  first | exact says0 _ _ | exact saysN _ _ _
set_option maxHeartbeats 1000000 in
theorem answer_dead (h : CN w ow b M L) (hd : M.dead = true) (hs : M.strs = []) (hg : GoneAt w a) (id : Int) (hw : (Lit.int .i64 id).wf = true) (l fin : Value) : Calls Tryz.prog 21 #[.pointer (some ⟨b, 0, none⟩), .int .i64 id, l, fin] w (Says w (goneV a)) := by
  have c19 : w.cell? ⟨b, 19, none⟩ = some (.bool M.dead) := h.blk.cell 19
  have c15 : w.cell? ⟨b, 15, none⟩ = some (.map (some L.mb)) := h.blk.cell 15
  have hlk := look_str h id hw
  rw [at_nil L id hs] at hlk
  rw [hd] at c19
  unfold GoneAt at hg
  clear h hd
  go_enter Tryz.func21, Tryz.ntmps21
  go_wp2_with fail
  (try (go_quiet (fail)))
  (try go_wp2)
  first | go_ret | go_ret2
  first | exact says0 _ _ | exact saysN _ _ _
set_option maxHeartbeats 1000000 in
theorem sending_dead (h : CN w ow b M L) (hd : M.dead = true) (hs : M.strs = []) (hg : GoneAt w a) (id : Int) (hw : (Lit.int .i64 id).wf = true) : Calls Tryz.prog 55 #[.pointer (some ⟨b, 0, none⟩), .int .i64 id] w (Says w (.tuple #[.pointer none, goneV a])) := by
  have c19 : w.cell? ⟨b, 19, none⟩ = some (.bool M.dead) := h.blk.cell 19
  have c15 : w.cell? ⟨b, 15, none⟩ = some (.map (some L.mb)) := h.blk.cell 15
  have hlk := look_str h id hw
  rw [at_nil L id hs] at hlk
  rw [hd] at c19
  unfold GoneAt at hg
  clear h hd
  go_enter Tryz.func55, Tryz.ntmps55
  go_wp2_with fail
  (try (go_quiet (fail)))
  (try go_wp2)
  first | go_ret | go_ret2
  first | exact says0 _ _ | exact saysN _ _ _
set_option maxHeartbeats 1000000 in
theorem there_dead (h : CN w ow b M L) (hd : M.dead = true) (hs : M.strs = []) (hg : GoneAt w a) (id : Int) (hw : (Lit.int .i64 id).wf = true) : Calls Tryz.prog 46 #[.pointer (some ⟨b, 0, none⟩), .int .i64 id] w (Says w (.tuple #[.pointer none, goneV a])) := by
  have c19 : w.cell? ⟨b, 19, none⟩ = some (.bool M.dead) := h.blk.cell 19
  have c15 : w.cell? ⟨b, 15, none⟩ = some (.map (some L.mb)) := h.blk.cell 15
  have hlk := look_str h id hw
  rw [at_nil L id hs] at hlk
  rw [hd] at c19
  unfold GoneAt at hg
  clear h hd
  go_enter Tryz.func46, Tryz.ntmps46
  go_wp2_with fail
  (try (go_quiet (fail)))
  (try go_wp2)
  first | go_ret | go_ret2
  first | exact says0 _ _ | exact saysN _ _ _
theorem drewN_add (w : World) (n m : Nat) : (w.drewN n).drewN m = w.drewN (n + m) := by
  simp only [World.drewN, Nat.add_assoc]
set_option maxHeartbeats 1000000 in
/-- An error of sending, or there, is handed on. -/
theorem send_err {v : Value} {id : Int} (hs : Calls Tryz.prog 55 #[.pointer (some ⟨b, 0, none⟩), .int .i64 id] w (Says w (.tuple #[v, goneV a]))) (l fin : Value) : Calls Tryz.prog 27 #[.pointer (some ⟨b, 0, none⟩), .int .i64 id, l, fin] w (Says w (goneV a)) := by
  go_enter Tryz.func27, Tryz.ntmps27
  go_wp2_with fail
  refine hs.mono ?_
  rintro e w1 ⟨rfl, n, rfl⟩
  go_wp2_with fail
  (try (go_quiet (fail)))
  (try go_wp2)
  first | go_ret | go_ret2
  first | exact saysN _ _ _ | exact ⟨rfl, _, drewN_add _ _ _⟩
set_option maxHeartbeats 1000000 in
theorem trail_err {v : Value} {id : Int} (hs : Calls Tryz.prog 55 #[.pointer (some ⟨b, 0, none⟩), .int .i64 id] w (Says w (.tuple #[v, goneV a]))) (l : Value) : Calls Tryz.prog 30 #[.pointer (some ⟨b, 0, none⟩), .int .i64 id, l] w (Says w (goneV a)) := by
  go_enter Tryz.func30, Tryz.ntmps30
  go_wp2_with fail
  refine hs.mono ?_
  rintro e w1 ⟨rfl, n, rfl⟩
  go_wp2_with fail
  (try (go_quiet (fail)))
  (try go_wp2)
  first | go_ret | go_ret2
  first | exact saysN _ _ _ | exact ⟨rfl, _, drewN_add _ _ _⟩
set_option maxHeartbeats 1000000 in
theorem reset_err {v n : Value} {id : Int} (hs : Calls Tryz.prog 46 #[.pointer (some ⟨b, 0, none⟩), .int .i64 id] w (Says w (.tuple #[v, goneV a]))) : Calls Tryz.prog 31 #[.pointer (some ⟨b, 0, none⟩), .int .i64 id, n] w (Says w (goneV a)) := by
  go_enter Tryz.func31, Tryz.ntmps31
  go_wp2_with fail
  refine hs.mono ?_
  rintro e w1 ⟨rfl, n, rfl⟩
  go_wp2_with fail
  (try (go_quiet (fail)))
  (try go_wp2)
  first | go_ret | go_ret2
  first | exact saysN _ _ _ | exact ⟨rfl, _, drewN_add _ _ _⟩
set_option maxHeartbeats 1000000 in
theorem ate_err {v n : Value} {id : Int} (hs : Calls Tryz.prog 46 #[.pointer (some ⟨b, 0, none⟩), .int .i64 id] w (Says w (.tuple #[v, goneV a]))) : Calls Tryz.prog 19 #[.pointer (some ⟨b, 0, none⟩), .int .i64 id, n] w (Says w (goneV a)) := by
  go_enter Tryz.func19, Tryz.ntmps19
  go_wp2_with fail
  refine hs.mono ?_
  rintro e w1 ⟨rfl, n, rfl⟩
  go_wp2_with fail
  (try (go_quiet (fail)))
  (try go_wp2)
  first | go_ret | go_ret2
  first | exact saysN _ _ _ | exact ⟨rfl, _, drewN_add _ _ _⟩
set_option maxHeartbeats 1000000 in
theorem ping_dead (h : CN w ow b M L) (hd : M.dead = true) (hg : GoneAt w a) (l : Value) : Calls Tryz.prog 32 #[.pointer (some ⟨b, 0, none⟩), l] w (Says w (goneV a)) := by
  have c19 : w.cell? ⟨b, 19, none⟩ = some (.bool M.dead) := h.blk.cell 19
  rw [hd] at c19
  unfold GoneAt at hg
  clear h hd
  go_enter Tryz.func32, Tryz.ntmps32
  go_wp2_with fail
  (try (go_quiet (fail)))
  (try go_wp2)
  first | go_ret | go_ret2
  first | exact says0 _ _ | exact saysN _ _ _
set_option maxHeartbeats 1000000 in
theorem bye_dead (h : CN w ow b M L) (hd : M.dead = true) (hg : GoneAt w a) (n : Value) : Calls Tryz.prog 33 #[.pointer (some ⟨b, 0, none⟩), n] w (Says w (goneV a)) := by
  have c19 : w.cell? ⟨b, 19, none⟩ = some (.bool M.dead) := h.blk.cell 19
  rw [hd] at c19
  unfold GoneAt at hg
  clear h hd
  go_enter Tryz.func33, Tryz.ntmps33
  go_wp2_with fail
  (try (go_quiet (fail)))
  (try go_wp2)
  first | go_ret | go_ret2
  first | exact says0 _ _ | exact saysN _ _ _
end
end Go.Proofs.YtdkfbkjmhgbppaaGreatDoor
end

section
namespace Go.Proofs.YtdkfbkjmhgbppaaGreatDoor
open Go.RowKit Go.Own Go.Own.Im Go.Own.Cx Go.Own.Fr
def RoleAt (w : World) (a : Addr) : Prop := w.cell? ⟨2, 0, none⟩ = some (goneV a)
def StreamAt (w : World) (a : Addr) : Prop := w.cell? ⟨3, 0, none⟩ = some (goneV a)
def NumAt (w : World) (a : Addr) : Prop := w.cell? ⟨0, 0, none⟩ = some (goneV a)
section
variable {w : World} {ow : Nat → Tg} {b : Nat} {M : Cv} {L : Lay} {a : Addr}
set_option maxHeartbeats 1000000 in
theorem open_role (h : CN w ow b M L) (hd : M.dead = false) (hs : M.side = 2) (hg : RoleAt w a) (l fin : Value) : Calls Tryz.prog 22 #[.pointer (some ⟨b, 0, none⟩), l, fin] w (Says w (.tuple #[.int .i64 0, goneV a])) := by
  have c19 : w.cell? ⟨b, 19, none⟩ = some (.bool M.dead) := h.blk.cell 19
  have c0 : w.cell? ⟨b, 0, none⟩ = some (.int .i64 (M.side : Nat)) := h.blk.cell 0
  rw [hd] at c19
  rw [hs] at c0
  unfold RoleAt at hg
  clear h hd hs
  go_enter Tryz.func22, Tryz.ntmps22
  go_wp2_with fail
  (try (go_quiet (fail)))
  (try go_wp2)
  first | go_ret | go_ret2
  first | exact says0 _ _ | exact saysN _ _ _
set_option maxHeartbeats 1000000 in
/-- A client that was told GOAWAY, or said Bye, opens nothing. -/
theorem open_gone (h : CN w ow b M L) (hd : M.dead = false) (hs : M.side = 1) (hb : M.gone = true ∨ M.gone = false ∧ M.bye = true) (hg : GoneAt w a) (l fin : Value) : Calls Tryz.prog 22 #[.pointer (some ⟨b, 0, none⟩), l, fin] w (Says w (.tuple #[.int .i64 0, goneV a])) := by
  have c19 : w.cell? ⟨b, 19, none⟩ = some (.bool M.dead) := h.blk.cell 19
  have c0 : w.cell? ⟨b, 0, none⟩ = some (.int .i64 (M.side : Nat)) := h.blk.cell 0
  have c18 : w.cell? ⟨b, 18, none⟩ = some (.bool M.gone) := h.blk.cell 18
  have c17 : w.cell? ⟨b, 17, none⟩ = some (.bool M.bye) := h.blk.cell 17
  rw [hd] at c19
  rw [hs] at c0
  unfold GoneAt at hg
  rcases hb with h1 | ⟨h1, h2⟩
  · rw [h1] at c18
    clear h hd hs h1
    go_enter Tryz.func22, Tryz.ntmps22
    go_wp2_with fail
    (try (go_quiet (fail)))
    (try go_wp2)
    first | go_ret | go_ret2
    first | exact says0 _ _ | exact saysN _ _ _
  · rw [h1] at c18
    rw [h2] at c17
    clear h hd hs h1 h2
    go_enter Tryz.func22, Tryz.ntmps22
    go_wp2_with fail
    (try (go_quiet (fail)))
    (try go_wp2)
    first | go_ret | go_ret2
    first | exact says0 _ _ | exact saysN _ _ _
set_option maxHeartbeats 1000000 in
theorem answer_role (h : CN w ow b M L) (hd : M.dead = false) (hsd : M.side = 1) (hs : M.strs = []) (hg : RoleAt w a) (id : Int) (hw : (Lit.int .i64 id).wf = true) (l fin : Value) : Calls Tryz.prog 21 #[.pointer (some ⟨b, 0, none⟩), .int .i64 id, l, fin] w (Says w (goneV a)) := by
  have c19 : w.cell? ⟨b, 19, none⟩ = some (.bool M.dead) := h.blk.cell 19
  have c0 : w.cell? ⟨b, 0, none⟩ = some (.int .i64 (M.side : Nat)) := h.blk.cell 0
  have c15 : w.cell? ⟨b, 15, none⟩ = some (.map (some L.mb)) := h.blk.cell 15
  have hlk := look_str h id hw
  rw [at_nil L id hs] at hlk
  rw [hd] at c19
  rw [hsd] at c0
  unfold RoleAt at hg
  clear h hd
  go_enter Tryz.func21, Tryz.ntmps21
  go_wp2_with fail
  (try (go_quiet (fail)))
  (try go_wp2)
  first | go_ret | go_ret2
  first | exact says0 _ _ | exact saysN _ _ _
set_option maxHeartbeats 1000000 in
theorem answer_none (h : CN w ow b M L) (hd : M.dead = false) (hsd : M.side = 2) (hs : M.strs = []) (hg : StreamAt w a) (id : Int) (hw : (Lit.int .i64 id).wf = true) (l fin : Value) : Calls Tryz.prog 21 #[.pointer (some ⟨b, 0, none⟩), .int .i64 id, l, fin] w (Says w (goneV a)) := by
  have c19 : w.cell? ⟨b, 19, none⟩ = some (.bool M.dead) := h.blk.cell 19
  have c0 : w.cell? ⟨b, 0, none⟩ = some (.int .i64 (M.side : Nat)) := h.blk.cell 0
  have c15 : w.cell? ⟨b, 15, none⟩ = some (.map (some L.mb)) := h.blk.cell 15
  have hlk := look_str h id hw
  rw [at_nil L id hs] at hlk
  rw [hd] at c19
  rw [hsd] at c0
  unfold StreamAt at hg
  clear h hd
  go_enter Tryz.func21, Tryz.ntmps21
  go_wp2_with fail
  (try (go_quiet (fail)))
  (try go_wp2)
  first | go_ret | go_ret2
  first | exact says0 _ _ | exact saysN _ _ _
set_option maxHeartbeats 1000000 in
theorem sending_none (h : CN w ow b M L) (hd : M.dead = false) (hs : M.strs = []) (hg : StreamAt w a) (id : Int) (hw : (Lit.int .i64 id).wf = true) : Calls Tryz.prog 55 #[.pointer (some ⟨b, 0, none⟩), .int .i64 id] w (Says w (.tuple #[.pointer none, goneV a])) := by
  have c19 : w.cell? ⟨b, 19, none⟩ = some (.bool M.dead) := h.blk.cell 19
  have c15 : w.cell? ⟨b, 15, none⟩ = some (.map (some L.mb)) := h.blk.cell 15
  have hlk := look_str h id hw
  rw [at_nil L id hs] at hlk
  rw [hd] at c19
  unfold StreamAt at hg
  clear h hd
  go_enter Tryz.func55, Tryz.ntmps55
  go_wp2_with fail
  (try (go_quiet (fail)))
  (try go_wp2)
  first | go_ret | go_ret2
  first | exact says0 _ _ | exact saysN _ _ _
set_option maxHeartbeats 1000000 in
/-- A stream that may not be sent to any more. -/
theorem sending_shut (h : CN w ow b M L) (hd : M.dead = false) (s : Sv) (id : Int) (hs : strAt M id = some s) (ho : s.own ≠ 1) (hg : StreamAt w a) (hw : (Lit.int .i64 id).wf = true) : Calls Tryz.prog 55 #[.pointer (some ⟨b, 0, none⟩), .int .i64 id] w (Says w (.tuple #[.pointer none, goneV a])) := by
  have c19 : w.cell? ⟨b, 19, none⟩ = some (.bool M.dead) := h.blk.cell 19
  have c15 : w.cell? ⟨b, 15, none⟩ = some (.map (some L.mb)) := h.blk.cell 15
  have hlk := look_str h id hw
  obtain ⟨h1, h2, h3⟩ := at_some (L := L) hs
  rw [h1] at hlk
  have d1 : w.cell? ⟨(L.s s.id).sb, 1, none⟩ = some (.int .i64 (s.own : Nat)) := (h.p.strs s h2).blk.cell 1
  have k1 : ((s.own : Int) != 1) = true := by simp; omega
  have k2 : ((s.own : Int) == 1) = false := by simp; omega
  have k3 : ¬ (s.own : Int) = 1 := by omega
  rw [hd] at c19
  unfold StreamAt at hg
  generalize (L.s s.id).sb = sb at *
  generalize (s.own : Int) = o at *
  clear h hd h1 h2 h3 ho hs
  go_enter Tryz.func55, Tryz.ntmps55
  go_wp2_with fail
  (try (go_quiet (fail)))
  (try go_wp2)
  first | go_ret | go_ret2
  first | exact says0 _ _ | exact saysN _ _ _
set_option maxHeartbeats 1000000 in
/-- A stream that may be sent to. -/
theorem sending_ok (h : CN w ow b M L) (hd : M.dead = false) (s : Sv) (id : Int) (hs : strAt M id = some s) (ho : s.own = 1) (hw : (Lit.int .i64 id).wf = true) : Calls Tryz.prog 55 #[.pointer (some ⟨b, 0, none⟩), .int .i64 id] w (Says w (.tuple #[.pointer (some ⟨(L.s s.id).sb, 0, none⟩), .nilIface])) := by
  have c19 : w.cell? ⟨b, 19, none⟩ = some (.bool M.dead) := h.blk.cell 19
  have c15 : w.cell? ⟨b, 15, none⟩ = some (.map (some L.mb)) := h.blk.cell 15
  have hlk := look_str h id hw
  obtain ⟨h1, h2, h3⟩ := at_some (L := L) hs
  rw [h1] at hlk
  have d1 : w.cell? ⟨(L.s s.id).sb, 1, none⟩ = some (.int .i64 (s.own : Nat)) := (h.p.strs s h2).blk.cell 1
  rw [ho] at d1
  rw [hd] at c19
  generalize (L.s s.id).sb = sb at *
  clear h hd h1 h2 h3 ho hs
  go_enter Tryz.func55, Tryz.ntmps55
  go_wp2_with fail
  (try (go_quiet (fail)))
  (try go_wp2)
  first | go_ret | go_ret2
  first | exact says0 _ _ | exact saysN _ _ _
set_option maxHeartbeats 1000000 in
theorem there_none (h : CN w ow b M L) (hd : M.dead = false) (hs : M.strs = []) (hg : StreamAt w a) (id : Int) (hw : (Lit.int .i64 id).wf = true) : Calls Tryz.prog 46 #[.pointer (some ⟨b, 0, none⟩), .int .i64 id] w (Says w (.tuple #[.pointer none, goneV a])) := by
  have c19 : w.cell? ⟨b, 19, none⟩ = some (.bool M.dead) := h.blk.cell 19
  have c15 : w.cell? ⟨b, 15, none⟩ = some (.map (some L.mb)) := h.blk.cell 15
  have hlk := look_str h id hw
  rw [at_nil L id hs] at hlk
  rw [hd] at c19
  unfold StreamAt at hg
  clear h hd
  go_enter Tryz.func46, Tryz.ntmps46
  go_wp2_with fail
  (try (go_quiet (fail)))
  (try go_wp2)
  first | go_ret | go_ret2
  first | exact says0 _ _ | exact saysN _ _ _
set_option maxHeartbeats 1000000 in
theorem there_ok (h : CN w ow b M L) (hd : M.dead = false) (s : Sv) (id : Int) (hs : strAt M id = some s) (hw : (Lit.int .i64 id).wf = true) : Calls Tryz.prog 46 #[.pointer (some ⟨b, 0, none⟩), .int .i64 id] w (Says w (.tuple #[.pointer (some ⟨(L.s s.id).sb, 0, none⟩), .nilIface])) := by
  have c19 : w.cell? ⟨b, 19, none⟩ = some (.bool M.dead) := h.blk.cell 19
  have c15 : w.cell? ⟨b, 15, none⟩ = some (.map (some L.mb)) := h.blk.cell 15
  have hlk := look_str h id hw
  obtain ⟨h1, h2, h3⟩ := at_some (L := L) hs
  rw [h1] at hlk
  rw [hd] at c19
  generalize (L.s s.id).sb = sb at *
  clear h hd h1 h2 h3 hs
  go_enter Tryz.func46, Tryz.ntmps46
  go_wp2_with fail
  (try (go_quiet (fail)))
  (try go_wp2)
  first | go_ret | go_ret2
  first | exact says0 _ _ | exact saysN _ _ _
set_option maxHeartbeats 1000000 in
theorem ping_bad (h : CN w ow b M L) (hd : M.dead = false) (hg : NumAt w a) (A : Option Addr) (n c : Nat) (hn : n ≠ 8) : Calls Tryz.prog 32 #[.pointer (some ⟨b, 0, none⟩), .slice A n c] w (Says w (goneV a)) := by
  have c19 : w.cell? ⟨b, 19, none⟩ = some (.bool M.dead) := h.blk.cell 19
  have k1 : ((n : Int) != 8) = true := by simp; omega
  have k2 : ((n : Int) == 8) = false := by simp; omega
  have k3 : ¬ (n : Int) = 8 := by omega
  rw [hd] at c19
  unfold NumAt at hg
  clear h hd hn
  go_enter Tryz.func32, Tryz.ntmps32
  go_wp2_with fail
  (try (go_quiet (fail)))
  (try go_wp2)
  first | go_ret | go_ret2
  first | exact says0 _ _ | exact saysN _ _ _
set_option maxHeartbeats 1000000 in
theorem code_any (w : World) (n : Int) : Calls Tryz.prog 58 #[.int .i64 n] w fun e w' => e = .returned (.bool (decide (0 ≤ n ∧ n < 4294967296))) ∧ w' = w := by
  by_cases h1 : 0 ≤ n
  · by_cases h2 : n < 4294967296
    · have e : decide (0 ≤ n ∧ n < 4294967296) = true := decide_eq_true ⟨h1, h2⟩
      rw [e]
      go_enter Tryz.func58, Tryz.ntmps58
      go_wp2
      go_ret
      exact ⟨rfl, rfl⟩
    · have e : decide (0 ≤ n ∧ n < 4294967296) = false := decide_eq_false fun h => h2 h.2
      rw [e]
      go_enter Tryz.func58, Tryz.ntmps58
      go_wp2
      go_ret
      exact ⟨rfl, rfl⟩
  · have e : decide (0 ≤ n ∧ n < 4294967296) = false := decide_eq_false fun h => h1 h.1
    rw [e]
    go_enter Tryz.func58, Tryz.ntmps58
    go_wp2_with fail
    (try (go_quiet (fail)))
    (try go_wp2)
    first | go_ret | go_ret2
    exact ⟨rfl, rfl⟩
set_option maxHeartbeats 1000000 in
theorem bye_bad (h : CN w ow b M L) (hd : M.dead = false) (hg : NumAt w a) (n : Int) (hn : ¬ (0 ≤ n ∧ n < 4294967296)) : Calls Tryz.prog 33 #[.pointer (some ⟨b, 0, none⟩), .int .i64 n] w (Says w (goneV a)) := by
  have c19 : w.cell? ⟨b, 19, none⟩ = some (.bool M.dead) := h.blk.cell 19
  have HK := code_any w n
  rw [decide_eq_false hn] at HK
  have HK := Lib.hid HK
  rw [hd] at c19
  unfold NumAt at hg
  clear h hd hn
  go_enter Tryz.func33, Tryz.ntmps33
  go_wp2_with fail
  refine HK.out.mono ?_
  rintro e w1 ⟨rfl, hw⟩
  subst w1
  go_wp2_with fail
  (try (go_quiet (fail)))
  (try go_wp2)
  first | go_ret | go_ret2
  first | exact says0 _ _ | exact saysN _ _ _
end
end Go.Proofs.YtdkfbkjmhgbppaaGreatDoor
end

section
namespace Go.Own.Fr
open Go Go.RowKit
theorem and_mask (x : Int) (m : Nat) (hm : m < 9223372036854775808) : ∃ q : Nat, q ≤ m ∧ bits .and .i64 x (m : Int) = (q : Int) := by
  refine ⟨(BitVec.ofInt 64 x).toNat &&& m, Nat.and_le_right, ?_⟩
  have hx : (BitVec.ofInt 64 x).toNat &&& m ≤ m := Nat.and_le_right
  show IntKind.i64.wrap ((BitVec.ofInt 64 x &&& BitVec.ofInt 64 (m : Int)).toNat : Int) = _
  rw [BitVec.toNat_and, ofInt_i64 m hm, IntKind.wrap_i64]
  omega
end Go.Own.Fr
end
