/-
  Contracts: (*Conn).leaves of a stream that holds nothing; over; finishes.
  Contracts: over of a stream of which both sides have ended; finishes.
  Contracts: table.stands, Static and Get at the first eight indices.
  Contracts: hpack.PutInt of a small index; (*Table).Find of a header that stands among the first eight.
  Contracts: (*Encoder).sizes where none was asked for; (*Encoder).Encode of headers that stand among the first eight.
  Contracts: what HEADERS without a priority are built of; (*Conn).heads of headers that stand among the first eight.
  Contract: GOAWAY's function at a client: it is told, and the streams above the last one are reset.
  GOAWAY at a client; the states of a server that streams come to, one behind the other (ConnStreams). No program text is walked here.
-/
import Derived.Test.YtkpppjhbmnfmkaaGreatDoorJi
import Derived.Test.YtkpppjhbmnfmkaaGreatDoorJk
import Derived.Test.YtkpppjhbmnfmkaaGreatDoorJj
import Derived.Deep.RegionLaw
import Derived.Test.YtkpppjhbmnfmkaaGreatDoorJp
import Derived.Test.YtkpppjhbmnfmkaaGreatDoorFa
import Derived.Test.YtkpppjhbmnfmkaaGreatDoorJn
import Derived.BigQuiet
import Derived.Deep.RegionHeld3
import Derived.Test.YtkpppjhbmnfmkaaGreatDoorJh
import Derived.Test.YtkpppjhbmnfmkaaGreatDoorJw
set_option linter.unusedSimpArgs false
set_option linter.unusedVariables false
section
namespace Go.Proofs.YtkpppjhbmnfmkaaGreatDoor
open Go.RowKit Go.Own Go.Own.Im Go.Own.Cx Go.Own.Fr
section
variable {w w' : World} {ow ow' : Nat → Tg} {b : Nat} {M : Cv} {L : Lay}
/-- A stream is let go. -/
def dropM (M : Cv) (id : Nat) : Cv := { M with strs := M.strs.filter fun s => s.id != id }
set_option maxRecDepth 100000 in
theorem CN.drops (h : CN w ow b M L) {id : Nat} (hw : (Lit.int .i64 (id : Int)).wf = true) (hin : id ∈ M.strs.map (·.id)) (hnd : (M.strs.map (·.id)).Nodup) (ty : TypeId) :
    ∃ w', (Builtin.delete_ #[74, 3] ty #[.map (some L.mb), .int .i64 (id : Int)]).run Tryz.prog w = .ok (.tuple #[]) w' ∧ CN w' ow b (dropM M id) L ∧ Fr w ow w' ow ∧ w.grownBy w' (some L.mb) := by
  obtain ⟨w', hrun, hm, hg, hsz⟩ := h.p.map.drop Tryz.underlying74 Tryz.underlying3 hw hin hnd ty
  have k := Kp.row h hg (t := .map) (fun g e => by injection e with e; rw [← e]; exact h.p.tm)
  have hbk := h.blkK k (by decide)
  have e : (M.strs.map (·.id)).filter (fun i => i != id) = ((dropM M id).strs).map (·.id) := by
    show _ = (M.strs.filter fun s => s.id != id).map (·.id)
    rw [List.filter_map]
    rfl
  rw [e] at hm
  refine ⟨w', hrun, ⟨hbk.1, hbk.2, ⟨h.p.fedK k (by decide), h.p.outK k (by decide), h.p.evK k (by decide) (by decide), (h.p.inwK k (by decide)).1, (h.p.inwK k (by decide)).2, (h.p.outwK k (by decide)).1, (h.p.outwK k (by decide)).2,
    hm, h.p.tm, fun s hs => h.p.strK k s (List.mem_filter.1 hs).1 (by intro j; simp), h.p.lstK k (by decide) (by decide), h.p.encK k (by decide), h.p.decK k (by decide)⟩, fun g hge => h.new g (by omega)⟩, Fr.grown hg (fun g e => by injection e with e; rw [← e, h.p.tm]; decide), hg⟩
end
section
variable {ops : Array Oper} {o : Oper} {a : Act} {Q : Exit → Act → World → Prop} {K : Act → World → Prop} {E : Prop} {w : World} {ow : Nat → Tg} {b : Nat} {M : Cv} {L : Lay}
theorem step_drops (hgd : o.guard = none) (s x : Operand) (ho : o.op = .call { callee := .builtin .delete, args := #[s, x], argTypes := #[74, 3] }) (hs : a.eval s = .map (some L.mb)) {id : Nat} (hx : a.eval x = .int .i64 (id : Int))
    (h : CN w ow b M L) (hw : (Lit.int .i64 (id : Int)).wf = true) (hin : id ∈ M.strs.map (·.id)) (hnd : (M.strs.map (·.id)).Nodup)
    (hK : ∀ w', CN w' ow b (dropM M id) L → Fr w ow w' ow → w.grownBy w' (some L.mb) → K (a.put o.dst (.tuple #[])) w') :
    if Region.wanted o (yielded ops a.tmps) = true then Oper.wp Tryz.prog o a w K Q else E := by
  have hw' : Region.wanted o (yielded ops a.tmps) = true := by simp [Region.wanted, hgd]
  rw [if_pos hw']
  obtain ⟨w', hrun, r1, r2, r3⟩ := h.drops hw hin hnd o.type
  unfold Oper.wp execOp
  simp only [ho, resolve, invoke, builtin, Sem.run_bind, Sem.run_pure, Result.andThen_ok, List.map_toArray, List.map_cons, List.map_nil, hs, hx, hrun]
  exact hK w' r1 r2 r3
end
set_option maxHeartbeats 1000000 in
theorem gives_none (w : World) (cv sv : Value) : Calls Tryz.prog 147 #[cv, sv, .int .i64 0] w fun e w' => e = .returned (.tuple #[]) ∧ w' = w := by
  go_enter Tryz.func147, Tryz.ntmps147
  go_wp2
  exact bodyPost_ret (v := .tuple #[]) (by simp [results, Tryz.results147]) rfl ⟨rfl, rfl⟩
set_option maxHeartbeats 4000000 in
set_option maxRecDepth 100000 in
theorem leaves0_same (w : World) (ow : Nat → Tg) (b : Nat) (M : Cv) (L : Lay) (s : Sv) (h : CN w ow b M L) (hs : s ∈ M.strs) (hh : s.held = 0) (hid : s.id ≤ 2147483647) (hnd : (M.strs.map (·.id)).Nodup) :
    Calls Tryz.prog 110 #[.pointer (some ⟨b, 0, none⟩), .pointer (some ⟨(L.s s.id).sb, 0, none⟩)] w (fun e w' => e = .returned (.tuple #[]) ∧ CN w' ow b (dropM M s.id) L ∧ Fr w ow w' ow) := by
  have HC := Lib.hid h
  have hst := (h.p.strs s hs).blk
  have HSt := Lib.hid hst
  have HT := Lib.hid (h.p.strs s hs).tb
  have hwf : (Lit.int .i64 (s.id : Int)).wf = true := by simp [Lit.wf, IntKind.min, IntKind.max, IntKind.bits, IntKind.signed]; omega
  have HW := Lib.hid hwf
  have HIn := Lib.hid (show s.id ∈ M.strs.map (·.id) from List.mem_map.2 ⟨s, hs, rfl⟩)
  have HND := Lib.hid hnd
  have c15 : w.drew.cell? ⟨b, 15, none⟩ = some (.map (some L.mb)) := h.blk.cell 15
  have s0 : w.drew.cell? ⟨(L.s s.id).sb, 0, none⟩ = some (.int .i64 (s.id : Nat)) := hst.cell 0
  have HMb := Lib.hid (show w.heap.size = w.heap.size from rfl)
  have hheld : (s.held : Int) = 0 := by omega
  clear h hs hh hid hnd hst hwf
  go_enter Tryz.func110, Tryz.ntmps110
  go_wp2_with fail
  go_region_law (first
    | (refine step_drops rfl (.tmp 7) (.tmp 11) rfl rfl rfl (show CN w.drew ow b M L from HC.out.drew) HW.out HIn.out HND.out ?_
       intro w1 hc1 hf1 hg1
       have HC1 := Lib.hid hc1
       have HF1 := Lib.hid hf1
       have HG1 := Lib.hid hg1
       clear hc1 hf1 hg1))
  all_goals
    have hst1 := (show Blk w.drew (L.s s.id).sb 122 (stC s (L.s s.id)) from HSt.out).grown HG1.out (fun e => by injection e with e; have h1 := HT.out; rw [e, HC.out.p.tm] at h1; cases h1)
    have s9 : w1.cell? ⟨(L.s s.id).sb, 9, none⟩ = some (.int .i64 (s.held : Nat)) := hst1.cell 9
    rw [hheld] at s9
    go_wp2_with fail
    refine (gives_none _ _ _).mono ?_
    rintro e w2 ⟨rfl, hw⟩
    subst w2
    go_wp2
    go_end0
    exact ⟨rfl, HC1.out, (Fr.drewN w ow 1).trans HF1.out⟩
theorem leaves0_any (w : World) (ow : Nat → Tg) (b : Nat) (M : Cv) (L : Lay) (s : Sv) (h : CN w ow b M L) (hs : s ∈ M.strs) (hh : s.held = 0) (hid : s.id ≤ 2147483647) (hnd : (M.strs.map (·.id)).Nodup) :
    Calls Tryz.prog 110 #[.pointer (some ⟨b, 0, none⟩), .pointer (some ⟨(L.s s.id).sb, 0, none⟩)] w (CPost w ow b (dropM M s.id) (.tuple #[])) :=
  (leaves0_same w ow b M L s h hs hh hid hnd).mono fun _ _ ⟨h1, h2, h3⟩ => ⟨ow, L, h1, h2, h3⟩
end Go.Proofs.YtkpppjhbmnfmkaaGreatDoor
end

section
namespace Go.Proofs.YtkpppjhbmnfmkaaGreatDoor
open Go.RowKit Go.Own Go.Own.Im Go.Own.Cx Go.Own.Fr
set_option maxHeartbeats 1000000 in
theorem over_yes (w : World) (ow : Nat → Tg) (b : Nat) (M : Cv) (L : Lay) (s : Sv) (h : CN w ow b M L) (hs : s ∈ M.strs) (h1 : s.own = 3) (h2 : s.other = 3) (hh : s.held = 0) (hid : s.id ≤ 2147483647) (hnd : (M.strs.map (·.id)).Nodup) :
    Calls Tryz.prog 97 #[.pointer (some ⟨b, 0, none⟩), .pointer (some ⟨(L.s s.id).sb, 0, none⟩)] w (CPost w ow b (dropM M s.id) (.tuple #[])) := by
  have hS := h.p.strs s hs
  have d1 : w.cell? ⟨(L.s s.id).sb, 1, none⟩ = some (.int .i64 (s.own : Nat)) := hS.blk.cell 1
  have d2 : w.cell? ⟨(L.s s.id).sb, 2, none⟩ = some (.int .i64 (s.other : Nat)) := hS.blk.cell 2
  rw [h1] at d1
  rw [h2] at d2
  have HL := Lib.hid (leaves0_any w ow b M L s h hs hh hid hnd)
  clear h hs h1 h2 hh hid hnd hS
  go_enter Tryz.func97, Tryz.ntmps97
  go_wp2_with fail
  refine HL.out.mono ?_
  intro e w1 hp
  obtain rfl := hp.ret
  have HQ := Lib.hid hp
  clear hp
  go_wp2
  go_end0
  exact HQ.out
/-- The own side of a stream has ended, or not. -/
def finM (M : Cv) (s : Sv) (fin : Bool) : Cv := if fin then (if s.other = 3 then dropM M s.id else { M with strs := updS M.strs { s with own := 3 } }) else M
theorem drop_upd (l : List Sv) (s : Sv) : (updS l s).filter (fun x => x.id != s.id) = l.filter (fun x => x.id != s.id) := by
  induction l with
  | nil => rfl
  | cons x l ih =>
    unfold updS at ih ⊢
    rw [List.map_cons, List.filter_cons, List.filter_cons, ih]
    by_cases e : x.id = s.id
    · rw [if_pos e, e]; simp
    · rw [if_neg e]
set_option maxHeartbeats 1000000 in
theorem finishes_any (w : World) (ow : Nat → Tg) (b : Nat) (M : Cv) (L : Lay) (s : Sv) (fin : Bool) (h : CN w ow b M L) (hs : s ∈ M.strs) (hh : s.held = 0) (hid : s.id ≤ 2147483647) (hnd : (M.strs.map (·.id)).Nodup) :
    Calls Tryz.prog 61 #[.pointer (some ⟨b, 0, none⟩), .pointer (some ⟨(L.s s.id).sb, 0, none⟩), .bool fin] w (CPost w ow b (finM M s fin) (.tuple #[])) := by
  cases fin with
  | false =>
    go_enter Tryz.func61, Tryz.ntmps61
    go_wp2
    go_end0
    exact ⟨ow, L, rfl, h, Fr.refl w ow⟩
  | true =>
    have hS := h.p.strs s hs
    have hk := h.strcell (s' := { s with own := 3 }) hs rfl 1 (.int .i64 3) rfl rfl rfl rfl
    have d1 : w.cell? ⟨(L.s s.id).sb, 1, none⟩ = some (.int .i64 (s.own : Nat)) := hS.blk.cell 1
    have f1 := hS.blk.frozen 1
    have hmem : ({ s with own := 3 } : Sv) ∈ updS M.strs { s with own := 3 } := List.mem_map.2 ⟨s, hs, by simp⟩
    have HO := Lib.hid (show Calls Tryz.prog 97 #[.pointer (some ⟨b, 0, none⟩), .pointer (some ⟨(L.s s.id).sb, 0, none⟩)] (w.setCell ⟨(L.s s.id).sb, 1, none⟩ (.int .i64 3)) (CPost (w.setCell ⟨(L.s s.id).sb, 1, none⟩ (.int .i64 3)) ow b (finM M s true) (.tuple #[])) from by
      by_cases ho : s.other = 3
      · have e : finM M s true = dropM { M with strs := updS M.strs { s with own := 3 } } s.id := by
          unfold finM dropM
          rw [if_pos rfl, if_pos ho]
          have := drop_upd M.strs { s with own := 3 }
          simp only at this ⊢
          rw [this]
        rw [e]
        exact over_yes _ ow b { M with strs := updS M.strs { s with own := 3 } } L { s with own := 3 } hk.1 hmem rfl ho hh hid (by show (List.map (·.id) (updS M.strs _)).Nodup; rw [updS_ids]; exact hnd)
      · have e : finM M s true = { M with strs := updS M.strs { s with own := 3 } } := by
          unfold finM
          rw [if_pos rfl, if_neg ho]
        rw [e]
        refine (over_no _ _ ow L.ob (L.s s.id) { s with own := 3 } (hk.1.p.strs _ hmem) (.inr ho)).mono ?_
        rintro e2 w1 ⟨rfl, rfl⟩
        exact ⟨ow, L, rfl, hk.1, Fr.refl _ _⟩)
    have HF := Lib.hid hk.2
    clear h hk hS hmem
    go_enter Tryz.func61, Tryz.ntmps61
    go_wp2_with fail
    refine HO.out.mono ?_
    intro e w1 hp
    obtain rfl := hp.ret
    have HQ := Lib.hid (hp.trans HF.out)
    clear hp
    go_wp2
    go_end0
    exact HQ.out
end Go.Proofs.YtkpppjhbmnfmkaaGreatDoor
end

section
namespace Go.Proofs.YtkpppjhbmnfmkaaGreatDoor
open Go.RowKit Go.Own Go.Own.Cx
/-- The first eight headers of the table that stands. -/
def stat8 : Nat → Option Hd.HdrV
  | 1 => some ⟨⟨#[58, 97, 117, 116, 104, 111, 114, 105, 116, 121]⟩, ⟨#[]⟩, false⟩
  | 2 => some ⟨⟨#[58, 109, 101, 116, 104, 111, 100]⟩, ⟨#[71, 69, 84]⟩, false⟩
  | 3 => some ⟨⟨#[58, 109, 101, 116, 104, 111, 100]⟩, ⟨#[80, 79, 83, 84]⟩, false⟩
  | 4 => some ⟨⟨#[58, 112, 97, 116, 104]⟩, ⟨#[47]⟩, false⟩
  | 5 => some ⟨⟨#[58, 112, 97, 116, 104]⟩, ⟨#[47, 105, 110, 100, 101, 120, 46, 104, 116, 109, 108]⟩, false⟩
  | 6 => some ⟨⟨#[58, 115, 99, 104, 101, 109, 101]⟩, ⟨#[104, 116, 116, 112]⟩, false⟩
  | 7 => some ⟨⟨#[58, 115, 99, 104, 101, 109, 101]⟩, ⟨#[104, 116, 116, 112, 115]⟩, false⟩
  | 8 => some ⟨⟨#[58, 115, 116, 97, 116, 117, 115]⟩, ⟨#[50, 48, 48]⟩, false⟩
  | _ => none
theorem stat8_at {i : Nat} {h : Hd.HdrV} (hi : stat8 i = some h) : (i = 1 ∧ h = ⟨⟨#[58, 97, 117, 116, 104, 111, 114, 105, 116, 121]⟩, ⟨#[]⟩, false⟩) ∨ (i = 2 ∧ h = ⟨⟨#[58, 109, 101, 116, 104, 111, 100]⟩, ⟨#[71, 69, 84]⟩, false⟩) ∨ (i = 3 ∧ h = ⟨⟨#[58, 109, 101, 116, 104, 111, 100]⟩, ⟨#[80, 79, 83, 84]⟩, false⟩) ∨ (i = 4 ∧ h = ⟨⟨#[58, 112, 97, 116, 104]⟩, ⟨#[47]⟩, false⟩) ∨ (i = 5 ∧ h = ⟨⟨#[58, 112, 97, 116, 104]⟩, ⟨#[47, 105, 110, 100, 101, 120, 46, 104, 116, 109, 108]⟩, false⟩) ∨ (i = 6 ∧ h = ⟨⟨#[58, 115, 99, 104, 101, 109, 101]⟩, ⟨#[104, 116, 116, 112]⟩, false⟩) ∨ (i = 7 ∧ h = ⟨⟨#[58, 115, 99, 104, 101, 109, 101]⟩, ⟨#[104, 116, 116, 112, 115]⟩, false⟩) ∨ (i = 8 ∧ h = ⟨⟨#[58, 115, 116, 97, 116, 117, 115]⟩, ⟨#[50, 48, 48]⟩, false⟩) := by
  unfold stat8 at hi
  split at hi
  · exact .inl ⟨rfl, by simpa using hi.symm⟩
  · exact .inr (.inl ⟨rfl, by simpa using hi.symm⟩)
  · exact .inr (.inr (.inl ⟨rfl, by simpa using hi.symm⟩))
  · exact .inr (.inr (.inr (.inl ⟨rfl, by simpa using hi.symm⟩)))
  · exact .inr (.inr (.inr (.inr (.inl ⟨rfl, by simpa using hi.symm⟩))))
  · exact .inr (.inr (.inr (.inr (.inr (.inl ⟨rfl, by simpa using hi.symm⟩)))))
  · exact .inr (.inr (.inr (.inr (.inr (.inr (.inl ⟨rfl, by simpa using hi.symm⟩))))))
  · exact .inr (.inr (.inr (.inr (.inr (.inr (.inr (⟨rfl, by simpa using hi.symm⟩)))))))
  · cases hi
/-- The lines of the table that stands, as far as they are looked at. -/
def Stat8L (L : List ByteArray) : Prop := L.length = 61 ∧ L[0]? = some ⟨#[58, 97, 117, 116, 104, 111, 114, 105, 116, 121]⟩ ∧ L[1]? = some ⟨#[58, 109, 101, 116, 104, 111, 100, 32, 71, 69, 84]⟩ ∧ L[2]? = some ⟨#[58, 109, 101, 116, 104, 111, 100, 32, 80, 79, 83, 84]⟩ ∧ L[3]? = some ⟨#[58, 112, 97, 116, 104, 32, 47]⟩ ∧ L[4]? = some ⟨#[58, 112, 97, 116, 104, 32, 47, 105, 110, 100, 101, 120, 46, 104, 116, 109, 108]⟩ ∧ L[5]? = some ⟨#[58, 115, 99, 104, 101, 109, 101, 32, 104, 116, 116, 112]⟩ ∧ L[6]? = some ⟨#[58, 115, 99, 104, 101, 109, 101, 32, 104, 116, 116, 112, 115]⟩ ∧ L[7]? = some ⟨#[58, 115, 116, 97, 116, 117, 115, 32, 50, 48, 48]⟩
theorem stat8L_of {s : ByteArray} (h1 : (lns s.data.toList).length = 61) (k0 : (lns s.data.toList)[0]? = some [58, 97, 117, 116, 104, 111, 114, 105, 116, 121]) (k1 : (lns s.data.toList)[1]? = some [58, 109, 101, 116, 104, 111, 100, 32, 71, 69, 84]) (k2 : (lns s.data.toList)[2]? = some [58, 109, 101, 116, 104, 111, 100, 32, 80, 79, 83, 84]) (k3 : (lns s.data.toList)[3]? = some [58, 112, 97, 116, 104, 32, 47]) (k4 : (lns s.data.toList)[4]? = some [58, 112, 97, 116, 104, 32, 47, 105, 110, 100, 101, 120, 46, 104, 116, 109, 108]) (k5 : (lns s.data.toList)[5]? = some [58, 115, 99, 104, 101, 109, 101, 32, 104, 116, 116, 112]) (k6 : (lns s.data.toList)[6]? = some [58, 115, 99, 104, 101, 109, 101, 32, 104, 116, 116, 112, 115]) (k7 : (lns s.data.toList)[7]? = some [58, 115, 116, 97, 116, 117, 115, 32, 50, 48, 48]) : Stat8L (Lib.splitB ⟨#[10]⟩ 0 (Lib.countB s ⟨#[10]⟩) s) ∧ Lib.countB s ⟨#[10]⟩ + 1 = 61 := by
  obtain ⟨e1, e2⟩ := lns_split s.data.toList.length s.data.toList (Nat.le_refl _)
  have e3 : (Lib.splitB ⟨#[10]⟩ 0 (Lib.countB s ⟨#[10]⟩) s).map (·.data.toList) = lns s.data.toList := (Lib.splitB_data _ _ _ _).trans e1
  refine ⟨⟨?_, at_of (e3 ▸ k0), at_of (e3 ▸ k1), at_of (e3 ▸ k2), at_of (e3 ▸ k3), at_of (e3 ▸ k4), at_of (e3 ▸ k5), at_of (e3 ▸ k6), at_of (e3 ▸ k7)⟩, e2.trans h1⟩
  rw [← h1, ← e3, List.length_map]
set_option maxHeartbeats 2000000 in
set_option maxRecDepth 100000 in
theorem stands8_any (w : World) (m : Int) (hm : w.cell? ⟨13, 0, none⟩ = some (.int .i64 m)) :
    Calls Tryz.prog 233 #[] w fun e w' => ∃ L, Stat8L L ∧ e = .returned (.slice (some ⟨w.heap.size, 0, none⟩) 61 61) ∧ w' = w.alloc (.cells (L.map Value.string).toArray 9) := by
  have HS := Lib.hid (fun (s : ByteArray) (hs : s.size < 4294967281) (h1 : (lns s.data.toList).length = 61) (k0 : (lns s.data.toList)[0]? = some [58, 97, 117, 116, 104, 111, 114, 105, 116, 121]) (k1 : (lns s.data.toList)[1]? = some [58, 109, 101, 116, 104, 111, 100, 32, 71, 69, 84]) (k2 : (lns s.data.toList)[2]? = some [58, 109, 101, 116, 104, 111, 100, 32, 80, 79, 83, 84]) (k3 : (lns s.data.toList)[3]? = some [58, 112, 97, 116, 104, 32, 47]) (k4 : (lns s.data.toList)[4]? = some [58, 112, 97, 116, 104, 32, 47, 105, 110, 100, 101, 120, 46, 104, 116, 109, 108]) (k5 : (lns s.data.toList)[5]? = some [58, 115, 99, 104, 101, 109, 101, 32, 104, 116, 116, 112]) (k6 : (lns s.data.toList)[6]? = some [58, 115, 99, 104, 101, 109, 101, 32, 104, 116, 116, 112, 115]) (k7 : (lns s.data.toList)[7]? = some [58, 115, 116, 97, 116, 117, 115, 32, 50, 48, 48]) =>
    (show Calls Tryz.prog 255 #[.string s, .string ⟨#[10]⟩] w fun e w' => ∃ L, Stat8L L ∧ e = .returned (.slice (some ⟨w.heap.size, 0, none⟩) 61 61) ∧ w' = w.alloc (.cells (L.map Value.string).toArray 9) from by
      obtain ⟨q1, q2⟩ := stat8L_of h1 k0 k1 k2 k3 k4 k5 k6 k7
      refine (Tryz.strings_Split s ⟨#[10]⟩ m w hs hm (by decide)).mono ?_
      intro e w' h
      exact ⟨_, q1, by rw [h.1, q2], h.2⟩))
  go_enter Tryz.func233, Tryz.ntmps233
  go_wp2_with (first
    | (go_at_call 255
       refine Calls.mono (HS.out _ (of_decide_eq_true (by kernel_rfl)) (by kernel_rfl) (by kernel_rfl) (by kernel_rfl) (by kernel_rfl) (by kernel_rfl) (by kernel_rfl) (by kernel_rfl) (by kernel_rfl) (by kernel_rfl)) ?_
       rintro e w1 ⟨L, hL, rfl, hw⟩
       subst w1)
    | fail)
  go_ret
  exact ⟨L, hL, rfl, rfl⟩
set_option maxHeartbeats 8000000 in
set_option maxRecDepth 100000 in
theorem static8_any (i : Nat) (h : Hd.HdrV) (hi : stat8 i = some h) (w : World) (m : Int) (hm : w.cell? ⟨13, 0, none⟩ = some (.int .i64 m)) :
    Calls Tryz.prog 212 #[.int .i64 (i : Nat)] w fun e w' => e = .returned (.tuple #[.agg (hdrC h), .bool true]) ∧ Below w.heap.size w w' := by
  have HB0 := Lib.hid ((Below.refl w.heap.size w).alloc (Nat.le_refl _) (.cells #[.string ⟨#[]⟩, .string ⟨#[]⟩, .bool false] 63))
  have HX := Lib.hid (Blk.new w 63 #[.string ⟨#[]⟩, .string ⟨#[]⟩, .bool false])
  have hg : 13 < w.heap.size := World.block_lt_of_cell? w _ hm
  have HM := Lib.hid (fun (W : World) (hb : Below w.heap.size w W) => (show W.cell? ⟨13, 0, none⟩ = some (.int .i64 m) from (World.cell?_of_block (hb.block _ hg)).trans hm))
  clear hm hg
  rcases stat8_at hi with ⟨rfl, rfl⟩ | ⟨rfl, rfl⟩ | ⟨rfl, rfl⟩ | ⟨rfl, rfl⟩ | ⟨rfl, rfl⟩ | ⟨rfl, rfl⟩ | ⟨rfl, rfl⟩ | ⟨rfl, rfl⟩
  all_goals
    clear hi
    go_enter Tryz.func212, Tryz.ntmps212
    go_upto_region 3 with fail
    generalize w.alloc (.cells #[.string ⟨#[]⟩, .string ⟨#[]⟩, .bool false] 63) = W0 at *
    have hm0 := HM.out W0 HB0.out
    go_wp2_with (first
      | (go_at_call 233
         refine Calls.mono (stands8_any W0 m hm0) ?_
         rintro e w1 ⟨L, hL, rfl, hw⟩
         have HN := Lib.hid (Blk.new W0 9 (L.map Value.string).toArray)
         have HB1 := Lib.hid (HB0.out.alloc HB0.out.size (.cells (L.map Value.string).toArray 9))
         have q0 : w1.cell? ⟨W0.heap.size, 0, none⟩ = some (.string ⟨#[58, 97, 117, 116, 104, 111, 114, 105, 116, 121]⟩) := by
           rw [hw]; exact ((Blk.new W0 9 (L.map Value.string).toArray).cell 0).trans (by simp [hL.2.1])
         have q1 : w1.cell? ⟨W0.heap.size, 1, none⟩ = some (.string ⟨#[58, 109, 101, 116, 104, 111, 100, 32, 71, 69, 84]⟩) := by
           rw [hw]; exact ((Blk.new W0 9 (L.map Value.string).toArray).cell 1).trans (by simp [hL.2.2.1])
         have q2 : w1.cell? ⟨W0.heap.size, 2, none⟩ = some (.string ⟨#[58, 109, 101, 116, 104, 111, 100, 32, 80, 79, 83, 84]⟩) := by
           rw [hw]; exact ((Blk.new W0 9 (L.map Value.string).toArray).cell 2).trans (by simp [hL.2.2.2.1])
         have q3 : w1.cell? ⟨W0.heap.size, 3, none⟩ = some (.string ⟨#[58, 112, 97, 116, 104, 32, 47]⟩) := by
           rw [hw]; exact ((Blk.new W0 9 (L.map Value.string).toArray).cell 3).trans (by simp [hL.2.2.2.2.1])
         have q4 : w1.cell? ⟨W0.heap.size, 4, none⟩ = some (.string ⟨#[58, 112, 97, 116, 104, 32, 47, 105, 110, 100, 101, 120, 46, 104, 116, 109, 108]⟩) := by
           rw [hw]; exact ((Blk.new W0 9 (L.map Value.string).toArray).cell 4).trans (by simp [hL.2.2.2.2.2.1])
         have q5 : w1.cell? ⟨W0.heap.size, 5, none⟩ = some (.string ⟨#[58, 115, 99, 104, 101, 109, 101, 32, 104, 116, 116, 112]⟩) := by
           rw [hw]; exact ((Blk.new W0 9 (L.map Value.string).toArray).cell 5).trans (by simp [hL.2.2.2.2.2.2.1])
         have q6 : w1.cell? ⟨W0.heap.size, 6, none⟩ = some (.string ⟨#[58, 115, 99, 104, 101, 109, 101, 32, 104, 116, 116, 112, 115]⟩) := by
           rw [hw]; exact ((Blk.new W0 9 (L.map Value.string).toArray).cell 6).trans (by simp [hL.2.2.2.2.2.2.2.1])
         have q7 : w1.cell? ⟨W0.heap.size, 7, none⟩ = some (.string ⟨#[58, 115, 116, 97, 116, 117, 115, 32, 50, 48, 48]⟩) := by
           rw [hw]; exact ((Blk.new W0 9 (L.map Value.string).toArray).cell 7).trans (by simp [hL.2.2.2.2.2.2.2.2])
         rw [← hw] at HB1
         have hx1 : Blk w1 w.heap.size 63 #[.string ⟨#[]⟩, .string ⟨#[]⟩, .bool false] := hw ▸ HX.out.alloc _
         have hm1 := HM.out w1 HB1.out
         clear hL hw)
      | (go_at_call 232
         refine Calls.mono (Tryz.strings_Cut _ _ m _ (by decide) hm1) ?_
         rintro e w2 ⟨rfl, n, hw⟩
         subst w2
         have hx2 := hx1.drewN n
         have x0 := hx1.cell 0
         have x1 := hx1.cell 1
         have x2 := hx1.cell 2
         have xf := hx1.frozen 0
         have xf1 := hx1.frozen 1
         have xf2 := hx1.frozen 2
         simp only [List.getElem?_toArray, List.getElem?_cons_zero, List.getElem?_cons_succ] at x0 x1 x2)
      | fail)
    refine bodyPost_ret (results_static _ _ w.heap.size _ _ _ _ rfl rfl (Blk3 hx2 rfl _ _ _)) rfl ⟨by kernel_rfl, below3 (below_drewN HB1.out n) (Nat.le_refl _) _ _ _⟩
set_option maxHeartbeats 2000000 in
theorem tget8_any (tv : Value) (i : Nat) (h : Hd.HdrV) (hi : stat8 i = some h) (w : World) (m : Int) (hm : w.cell? ⟨13, 0, none⟩ = some (.int .i64 m)) :
    Calls Tryz.prog 170 #[tv, .int .i64 (i : Nat)] w fun e w' => e = .returned (.tuple #[.agg (hdrC h), .bool true]) ∧ Below w.heap.size w w' := by
  have HB0 := Lib.hid ((Below.refl w.heap.size w).alloc (Nat.le_refl _) (.cells #[.string ⟨#[]⟩, .string ⟨#[]⟩, .bool false] 63))
  have HX := Lib.hid (Blk.new w 63 #[.string ⟨#[]⟩, .string ⟨#[]⟩, .bool false])
  have hg : 13 < w.heap.size := World.block_lt_of_cell? w _ hm
  have hm0 : (w.alloc (.cells #[.string ⟨#[]⟩, .string ⟨#[]⟩, .bool false] 63)).cell? ⟨13, 0, none⟩ = some (.int .i64 m) := (World.cell?_of_block (HB0.out.block _ hg)).trans hm
  have h61 : (i : Int) ≤ 61 := by
    rcases stat8_at hi with ⟨rfl, _⟩ | ⟨rfl, _⟩ | ⟨rfl, _⟩ | ⟨rfl, _⟩ | ⟨rfl, _⟩ | ⟨rfl, _⟩ | ⟨rfl, _⟩ | ⟨rfl, _⟩ <;> decide
  have HS := Lib.hid (static8_any i h hi _ m hm0)
  have HZ := Lib.hid (show (w.alloc (.cells #[.string ⟨#[]⟩, .string ⟨#[]⟩, .bool false] 63)).heap.size = w.heap.size + 1 by simp)
  clear hm hg hm0 hi
  obtain ⟨hn, hv, hne⟩ := h
  simp only [hdrC] at HS ⊢
  go_enter Tryz.func170, Tryz.ntmps170
  go_upto_region 1 with fail
  generalize w.alloc (.cells #[.string ⟨#[]⟩, .string ⟨#[]⟩, .bool false] 63) = W0 at *
  go_wp2_with fail
  refine HS.out.mono ?_
  rintro e w1 ⟨rfl, hb⟩
  have HB1 := Lib.hid (HB0.out.trans (hb.mono HB0.out.size))
  have HX1 := Lib.hid (HX.out.below hb HX.out.lt)
  clear hb
  have x0 := HX1.out.cell 0
  have x1 := HX1.out.cell 1
  have x2 := HX1.out.cell 2
  have xf := HX1.out.frozen 0
  have xf1 := HX1.out.frozen 1
  have xf2 := HX1.out.frozen 2
  simp only [List.getElem?_toArray, List.getElem?_cons_zero, List.getElem?_cons_succ] at x0 x1 x2
  go_wp2
  refine bodyPost_ret (results_tget _ _ w.heap.size _ _ _ _ rfl rfl (Blk3 HX1.out rfl _ _ _)) rfl ⟨rfl, below3 HB1.out (Nat.le_refl _) _ _ _⟩
end Go.Proofs.YtkpppjhbmnfmkaaGreatDoor
end

section
namespace Go.Proofs.YtkpppjhbmnfmkaaGreatDoor
open Go.RowKit Go.Own Go.Own.Cx Go.Own.Fr
theorem or_128 : ∀ i : Nat, i ≤ 8 → 128 ||| i = 128 + i := by decide
set_option maxHeartbeats 4000000 in
set_option maxRecDepth 100000 in
theorem putint_any (A : Option Addr) (n c : Nat) (l : List UInt8) (i : Nat) (w : World) (B : Nat) (hr : Rd w B A n l) (hB : B ≤ w.heap.size) (hn : n ≤ 1000000000) (hi : i ≤ 8) :
    Calls Tryz.prog 138 #[.slice A n c, .int .i64 128, .int .i64 7, .int .i64 (i : Nat)] w fun e w' => ∃ A' c', e = .returned (.slice A' (n + 1) c') ∧ Ow w' w.heap.size 5 (.slice A' (n + 1) c') (n + 1) (l ++ [UInt8.ofNat (128 + i)]) ∧ Below w.heap.size w w' := by
  have HR := Lib.hid hr
  have e1 : bits .or .i64 128 (i : Int) = ((128 ||| i : Nat) : Int) := or_nat 128 i (by omega) (by omega)
  rw [or_128 i hi] at e1
  have e2 : bits .and .i64 128 127 = 0 := by decide
  have k1 : (i : Int) < 127 := by omega
  have k2 : ((i : Int) < 0) = False := by simp
  have k3 : ((2147483647 : Int) < (i : Int)) = False := by simp; omega
  have hw1 : wrap64 ((n : Int) + 6) = ((n + 6 : Nat) : Int) := by unfold wrap64; omega
  have hw2 : IntKind.i64.wrap ((n : Int) + 6) = ((n + 6 : Nat) : Int) := by rw [IntKind.wrap_i64]; omega
  have hw3 : IntKind.u8.wrap ((128 + i : Nat) : Int) = ((128 + i : Nat) : Int) := by rw [IntKind.wrap_u8]; omega
  have HH := Lib.hid (show n ≤ 1000000000 ∧ i ≤ 8 from ⟨hn, hi⟩)
  clear hr hn hi
  generalize hx : ((128 + i : Nat) : Int) = x at *
  go_enter Tryz.func138, Tryz.ntmps138
  go_upto_region 2 with (first
    | (at_make
       refine wpList_mk _ byteP rfl _ _ rfl w.heap.size .i64 .i64 _ (n + 6) rfl rfl ?_ ?_ (Nat.le_refl _) ?_
       · first | exact hw1 | exact hw2 | rfl
       · have := HH.out.1; omega
       intro w1 ho1 hg1
       have hb1 : Below w.heap.size w w1 := (Below.refl _ _).grown hg1 (Nat.le_refl _) (by simp)
       have HR1 := Lib.hid ((HR.out.more hB).below hb1))
    | (at_builtin
       refine wpList_app_fits _ byteP rfl (.tmp 14) (.tmp 15) rfl w.heap.size w.heap.size 0 (n + 6) [] rfl ho1 w.heap.size A n c l rfl HR1.out ?_ ?_
       · omega
       intro w2 ho2 hg2
       simp only [Nat.zero_add, List.nil_append] at ho2
       have hb2 : Below w.heap.size w w2 := hb1.grown hg2 hb1.size (by simp)
       have HO2 := Lib.hid ho2
       have HB2 := Lib.hid hb2
       clear ho1 hg1 hb1 HR1 ho2 hg2 hb2)
    | fail)
  have HV := Lib.hid (show x = ((UInt8.ofNat (128 + i)).toNat : Int) by rw [← hx]; have := HH.out.2; simp; omega)
  have HR2 := Lib.hid (Rd.one w2 x (UInt8.ofNat (128 + i)) 5 HV.out)
  have HO2a := Lib.hid (HO2.out.alloc (.cells #[.int .u8 x] 5))
  have HB2a := Lib.hid (HB2.out.alloc HB2.out.size (.cells #[.int .u8 x] 5))
  have hbnd : n + 1 ≤ 140737488355328 := by have := HH.out.1; omega
  go_upto_region 6 with fail
  go_wp2_with (first
    | (at_builtin
       refine wpList_app_any _ byteP rfl (.tmp 54) (.tmp 59) rfl w.heap.size _ n l rfl HO2a.out (w2.heap.size + 1) (some ⟨w2.heap.size, 0, none⟩) 1 1 [UInt8.ofNat (128 + i)] rfl HR2.out hbnd HB2a.out.size ?_
       intro A3 c3 w3 ho3 hg3 _ _ _
       have HO3 := Lib.hid ho3
       have HB3 := Lib.hid (HB2a.out.grown hg3 HB2a.out.size (fun g hg => (HO2a.out.lt hg).2))
       clear ho3 hg3)
    | fail)
  go_ret
  exact ⟨A3, c3, rfl, HO3.out, HB3.out⟩
/-- Two of the eight are the same header only if they are the same. -/
theorem stat8_inj {i k : Nat} {a b : Hd.HdrV} (hi : stat8 i = some a) (hk : stat8 k = some b) (hne : i ≠ k) : ¬ (a.name = b.name ∧ a.value = b.value) := by
  rcases stat8_at hi with ⟨rfl, rfl⟩ | ⟨rfl, rfl⟩ | ⟨rfl, rfl⟩ | ⟨rfl, rfl⟩ | ⟨rfl, rfl⟩ | ⟨rfl, rfl⟩ | ⟨rfl, rfl⟩ | ⟨rfl, rfl⟩ <;>
    rcases stat8_at hk with ⟨rfl, rfl⟩ | ⟨rfl, rfl⟩ | ⟨rfl, rfl⟩ | ⟨rfl, rfl⟩ | ⟨rfl, rfl⟩ | ⟨rfl, rfl⟩ | ⟨rfl, rfl⟩ | ⟨rfl, rfl⟩ <;> first
    | exact absurd rfl hne
    | (intro h; simp at h)
theorem stat8_lt {i : Nat} {a : Hd.HdrV} (hi : stat8 i = some a) : 1 ≤ i ∧ i ≤ 8 := by
  rcases stat8_at hi with ⟨rfl, _⟩ | ⟨rfl, _⟩ | ⟨rfl, _⟩ | ⟨rfl, _⟩ | ⟨rfl, _⟩ | ⟨rfl, _⟩ | ⟨rfl, _⟩ | ⟨rfl, _⟩ <;> decide
theorem stat8_some : ∀ i : Nat, 1 ≤ i → i ≤ 8 → ∃ a, stat8 i = some a := by
  intro i h1 h2
  have : i = 1 ∨ i = 2 ∨ i = 3 ∨ i = 4 ∨ i = 5 ∨ i = 6 ∨ i = 7 ∨ i = 8 := by omega
  rcases this with rfl | rfl | rfl | rfl | rfl | rfl | rfl | rfl <;> exact ⟨_, rfl⟩
theorem toL_ne {a b : ByteArray} (h : a ≠ b) : (a.toList == b.toList) = false := by
  rw [ByteArray.toList_eq, ByteArray.toList_eq]
  simp only [beq_eq_false_iff_ne, ne_eq]
  exact fun e => h (Go.WideShapes.bytes_inj e)
/-- Between two rounds of Find. -/
def FdR (w : World) (k : Nat) (nv iv : Value) (wr : World) : Prop := ∃ j nm : Nat, iv = .int .i64 (j : Nat) ∧ nv = .int .i64 (nm : Nat) ∧ 1 ≤ j ∧ j ≤ k ∧ Below w.heap.size w wr
set_option maxHeartbeats 8000000 in
set_option maxRecDepth 100000 in
theorem find8_any (w : World) (g k ol n sz mo : Nat) (rv : Value) (h : Hd.HdrV) (hg : Blk w g 179 #[rv, .int .i64 (ol : Nat), .int .i64 (n : Nat), .int .i64 (sz : Nat), .int .i64 (mo : Nat)]) (hn : n ≤ 1000) (hk : stat8 k = some h) (m : Int) (hm : w.cell? ⟨13, 0, none⟩ = some (.int .i64 m)) :
    Calls Tryz.prog 137 #[.pointer (some ⟨g, 0, none⟩), .string h.name, .string h.value] w fun e w' => e = .returned (.tuple #[.int .i64 (k : Nat), .bool true]) ∧ Below w.heap.size w w' := by
  have HG := Lib.hid hg
  have HK := Lib.hid hk
  have HL := Lib.hid (stat8_lt hk)
  have hgm : 13 < w.heap.size := World.block_lt_of_cell? w _ hm
  have HM := Lib.hid (fun (W : World) (hb : Below w.heap.size w W) => (show W.cell? ⟨13, 0, none⟩ = some (.int .i64 m) from (World.cell?_of_block (hb.block _ hgm)).trans hm))
  have hw1 : wrap64 (61 + (n : Int)) = ((61 + n : Nat) : Int) := by unfold wrap64; omega
  have hw2 : IntKind.i64.wrap (61 + (n : Int)) = ((61 + n : Nat) : Int) := by rw [IntKind.wrap_i64]; omega
  clear hg hk hn hm hgm
  go_enter Tryz.func137, Tryz.ntmps137
  go_upto_region 3 with fail
  go_loopw [8, 9] (fun nv iv wr => Hid (FdR w k nv iv wr)) (fun _ iv _ => k - (intOf iv).toNat)
  case atStart => exact ⟨1, 0, rfl, rfl, Nat.le_refl _, HL.out.1, Below.refl _ _⟩
  case round =>
    obtain ⟨j, nm, rfl, rfl, hj1, hjk, hb⟩ := hrel
    have HB := Lib.hid hb
    have HJ := Lib.hid (show 1 ≤ j ∧ j ≤ k from ⟨hj1, hjk⟩)
    have c2 : wr.cell? ⟨g, 2, none⟩ = some (.int .i64 (n : Nat)) := (HG.out.below hb HG.out.lt).cell 2
    have hle : (j : Int) ≤ ((61 + n : Nat) : Int) := by have := HL.out.2; omega
    obtain ⟨a, ha⟩ := stat8_some j hj1 (Nat.le_trans hjk HL.out.2)
    have HGet := Lib.hid (tget8_any (.pointer (some ⟨g, 0, none⟩)) j a ha wr m (HM.out wr hb))
    have HA := Lib.hid ha
    obtain ⟨an, av, ae⟩ := a
    simp only [hdrC] at HGet
    clear hb hj1 hjk ha
    by_cases he : j = k
    · subst he
      have hah : (⟨an, av, ae⟩ : Hd.HdrV) = h := by
        have := HA.out.symm.trans HK.out
        simpa using this
      subst hah
      go_wp2_with (first
        | (go_at_call 170
           refine Calls.mono HGet.out ?_
           rintro e w1 ⟨rfl, hb1⟩
           have HB1 := Lib.hid (HB.out.trans (hb1.mono HB.out.size))
           clear hb1)
        | fail)
      go_ret2
      exact ⟨rfl, HB1.out.alloc HB1.out.size _⟩
    · have hinj := stat8_inj HA.out HK.out he
      have HLt := Lib.hid (show j < k by have := HJ.out; omega)
      by_cases hnm : an = h.name
      · have hv : av ≠ h.value := fun e => hinj ⟨hnm, e⟩
        have q1 := toL_ne hv
        subst hnm
        go_wp2_with (first
          | (go_at_call 170
             refine Calls.mono HGet.out ?_
             rintro e w1 ⟨rfl, hb1⟩
             have HB1 := Lib.hid (HB.out.trans (hb1.mono HB.out.size))
             clear hb1)
          | fail)
        all_goals
          have hj9 := HL.out.2
          have hj8 := HLt.out
          have hj7 := HJ.out.1
          have ew : wrap64 ((j : Int) + 1) = ((j + 1 : Nat) : Int) := by unfold wrap64; omega
          rw [ew]
          first
            | exact ⟨⟨j + 1, nm, rfl, rfl, by omega, by omega, HB1.out.alloc HB1.out.size _⟩, by simp [intOf]; omega⟩
            | exact ⟨⟨j + 1, j, rfl, rfl, by omega, by omega, HB1.out.alloc HB1.out.size _⟩, by simp [intOf]; omega⟩
      · have q1 := toL_ne hnm
        go_wp2_with (first
          | (go_at_call 170
             refine Calls.mono HGet.out ?_
             rintro e w1 ⟨rfl, hb1⟩
             have HB1 := Lib.hid (HB.out.trans (hb1.mono HB.out.size))
             clear hb1)
          | fail)
        all_goals
          have hj9 := HL.out.2
          have hj8 := HLt.out
          have hj7 := HJ.out.1
          have ew : wrap64 ((j : Int) + 1) = ((j + 1 : Nat) : Int) := by unfold wrap64; omega
          rw [ew]
          first
            | exact ⟨⟨j + 1, nm, rfl, rfl, by omega, by omega, HB1.out.alloc HB1.out.size _⟩, by simp [intOf]; omega⟩
            | exact ⟨⟨j + 1, j, rfl, rfl, by omega, by omega, HB1.out.alloc HB1.out.size _⟩, by simp [intOf]; omega⟩
end Go.Proofs.YtkpppjhbmnfmkaaGreatDoor
end

section
namespace Go.Proofs.YtkpppjhbmnfmkaaGreatDoor
open Go.RowKit Go.Own Go.Own.Cx Go.Own.Fr
attribute [local go_sem] Oper.semAt_some
theorem below_same {w : World} {g i : Nat} {t : TypeId} {cs : Array Value} {v : Value} (h : Blk w g t cs) (hv : cs.setIfInBounds i v = cs) : Below w.heap.size w (w.setCell ⟨g, i, none⟩ v) :=
  ⟨rfl, rfl, rfl, by simp [World.setCell], fun k _ => by
    by_cases e : k = g
    · subst e
      have h1 := h.put i v
      rw [hv] at h1
      exact h1.trans h.symm
    · exact Below.heap_setCell w _ _ k e⟩
set_option maxHeartbeats 1000000 in
theorem sizes_any (w : World) (e tb least : Nat) (h : Blk w e 135 #[.pointer (some ⟨tb, 0, none⟩), .int .i64 (least : Nat), .bool false]) : Calls Tryz.prog 136 #[.pointer (some ⟨e, 0, none⟩)] w fun r w' => r = .returned (.slice none 0 0) ∧ Below w.heap.size w w' := by
  have c2 : w.cell? ⟨e, 2, none⟩ = some (.bool false) := h.cell 2
  have f2 := h.frozen 2
  have HB := Lib.hid (below_same h (i := 2) (v := .bool false) rfl)
  clear h
  go_enter Tryz.func136, Tryz.ntmps136
  go_wp2
  go_ret
  exact ⟨rfl, HB.out⟩
/-- The indexes of headers that stand among the first eight. -/
def Ix8 : List Nat → List Hd.HdrV → Prop
  | [], [] => True
  | i :: ix, h :: hs => stat8 i = some h ∧ Ix8 ix hs
  | _, _ => False
theorem Ix8.len : ∀ {ix : List Nat} {hs : List Hd.HdrV}, Ix8 ix hs → ix.length = hs.length
  | [], [], _ => rfl
  | _ :: ix, _ :: hs, h => by simp [Ix8.len (ix := ix) (hs := hs) h.2]
  | [], _ :: _, h => h.elim
  | _ :: _, [], h => h.elim
theorem Ix8.at_ : ∀ {ix : List Nat} {hs : List Hd.HdrV}, Ix8 ix hs → ∀ {j : Nat}, j < hs.length → ∃ i x, ix[j]? = some i ∧ hs[j]? = some x ∧ stat8 i = some x
  | i :: _, x :: _, h, 0, _ => ⟨i, x, rfl, rfl, h.1⟩
  | _ :: ix, _ :: hs, h, j + 1, hj => by
    obtain ⟨i, x, h1, h2, h3⟩ := Ix8.at_ (ix := ix) (hs := hs) h.2 (j := j) (by simpa using hj)
    exact ⟨i, x, by simpa using h1, by simpa using h2, h3⟩
  | [], [], _, j, hj => by simp at hj
  | [], _ :: _, h, _, _ => h.elim
  | _ :: _, [], h, _, _ => h.elim
def ixB (ix : List Nat) : List UInt8 := ix.map fun i => UInt8.ofNat (128 + i)
theorem hr_of {A : Option Addr} {w : World} {B : Nat} {hs : List Hd.HdrV} (hr : Cm.RS hdrC 3 w B A hs.length hs) : H6.Hr w A hs.length hs := ⟨rfl, fun j u hu => by
  rw [hcells_flat] at hu
  exact hr.flatc (fun _ => rfl) j u hu⟩
/-- Between two rounds of Encode. -/
def EnR (w : World) (n : Nat) (ix : List Nat) (bv iv : Value) (wr : World) : Prop := ∃ (j c : Nat) (A : Option Addr), bv = .slice A j c ∧ iv = .int .i64 (j : Nat) ∧ j ≤ n ∧ j ≤ c ∧ Rd wr wr.heap.size A j (ixB (ix.take j)) ∧ Below w.heap.size w wr
set_option maxHeartbeats 8000000 in
set_option maxRecDepth 100000 in
theorem encode8_any (w : World) (e tb least ol k sz mo c : Nat) (rv : Value) (A : Option Addr) (hs : List Hd.HdrV) (ix : List Nat) (h : Blk w e 135 #[.pointer (some ⟨tb, 0, none⟩), .int .i64 (least : Nat), .bool false]) (ht : Blk w tb 179 #[rv, .int .i64 (ol : Nat), .int .i64 (k : Nat), .int .i64 (sz : Nat), .int .i64 (mo : Nat)]) (hk : k ≤ 1000)
    (hr : Cm.RS hdrC 3 w w.heap.size A hs.length hs) (hix : Ix8 ix hs) (hnv : ∀ x ∈ hs, x.never = false) (hn : hs.length ≤ 1000) (m : Int) (hm : w.cell? ⟨13, 0, none⟩ = some (.int .i64 m)) :
    Calls Tryz.prog 96 #[.pointer (some ⟨e, 0, none⟩), .slice A hs.length c] w fun r w' => ∃ A' c', r = .returned (.slice A' hs.length c') ∧ hs.length ≤ c' ∧ Rd w' w'.heap.size A' hs.length (ixB ix) ∧ Below w.heap.size w w' := by
  have HH := Lib.hid (show _ ∧ _ ∧ _ ∧ _ from ⟨hk, hix, hnv, hn⟩)
  have HE := Lib.hid h
  have HT := Lib.hid ht
  have HR := Lib.hid hr
  have HS := Lib.hid (sizes_any w e tb least h)
  have hgm : 13 < w.heap.size := World.block_lt_of_cell? w _ hm
  have HM := Lib.hid (fun (W : World) (hb : Below w.heap.size w W) => (show W.cell? ⟨13, 0, none⟩ = some (.int .i64 m) from (World.cell?_of_block (hb.block _ hgm)).trans hm))
  clear h ht hk hr hix hnv hn hm hgm
  generalize hN : hs.length = n at *
  go_enter Tryz.func96, Tryz.ntmps96
  go_wp2_with fail
  refine HS.out.mono ?_
  rintro r w1 ⟨rfl, hb1⟩
  have HB1 := Lib.hid hb1
  clear hb1
  go_upto_region 3 with fail
  go_loopw [5, 14] (fun bv iv wr => Hid (EnR w n ix bv iv wr)) (fun _ iv _ => n - (intOf iv).toNat)
  case atStart => exact ⟨0, 0, none, rfl, rfl, Nat.zero_le _, Nat.le_refl _, ⟨rfl, fun h => absurd h (Nat.lt_irrefl _)⟩, HB1.out⟩
  case round =>
    obtain ⟨j, cb, Ab, rfl, rfl, hjn, hjc, hrd, hb⟩ := hrel
    have HRd := Lib.hid hrd
    have HB := Lib.hid hb
    have HJ := Lib.hid (show j ≤ n ∧ j ≤ cb from ⟨hjn, hjc⟩)
    by_cases hlt : j < n
    · have hlt2 : (j : Int) < (n : Int) := by omega
      obtain ⟨i, x, hi, hx, hst⟩ := HH.out.2.1.at_ (j := j) (by omega)
      have hH := hr_of (hN.symm ▸ HR.out.below hb)
      obtain ⟨ad, rfl, a0, a1, a2⟩ := hH.at_ (k := j) (by omega)
      have hgd : hs.getD j ⟨⟨#[]⟩, ⟨#[]⟩, false⟩ = x := by rw [List.getD, hx]; rfl
      rw [hgd] at a0 a1 a2
      have hne := HH.out.2.2.1 x (List.mem_of_getElem? hx)
      rw [hne] at a2
      have HI := Lib.hid (show ix[j]? = some i ∧ stat8 i = some x from ⟨hi, hst⟩)
      have i0 : (0 : Int) ≤ (j : Int) := by omega
      obtain ⟨xn, xv, xb⟩ := x
      simp only at a0 a1 a2 hne
      subst hne
      clear hrd hb hjn hjc hi hx hst hH hgd
      go_upto_region 5 with fail
      have HX := Lib.hid (Blk.new wr 63 #[.string xn, .string xv, .bool false])
      have HBx := Lib.hid (HB.out.alloc HB.out.size (.cells #[.string xn, .string xv, .bool false] 63))
      have HRx := Lib.hid (HRd.out.alloc (Nat.le_refl _) (.cells #[.string xn, .string xv, .bool false] 63))
      obtain ⟨gh, hgh⟩ : ∃ g, wr.heap.size = g := ⟨_, rfl⟩
      rw [hgh] at HX HRx ⊢
      have HGh := Lib.hid hgh
      clear hgh a0 a1 a2
      generalize wr.alloc (.cells #[.string xn, .string xv, .bool false] 63) = W1 at *
      have HFd := Lib.hid (find8_any W1.drew tb i ol k sz mo rv ⟨xn, xv, false⟩ (HT.out.below HBx.out.drew HT.out.lt) HH.out.1 HI.out.2 m (HM.out _ HBx.out.drew))
      have HS0 := Lib.hid (show W1.cell? ⟨e, 0, none⟩ = some (.pointer (some ⟨tb, 0, none⟩)) ∧ W1.cell? ⟨gh, 0, none⟩ = some (.string xn) ∧ W1.cell? ⟨gh, 1, none⟩ = some (.string xv) from ⟨(HE.out.below HBx.out HE.out.lt).cell 0, HX.out.cell 0, HX.out.cell 1⟩)
      have HS0d := Lib.hid (show W1.drew.cell? ⟨e, 0, none⟩ = some (.pointer (some ⟨tb, 0, none⟩)) ∧ W1.drew.cell? ⟨gh, 0, none⟩ = some (.string xn) ∧ W1.drew.cell? ⟨gh, 1, none⟩ = some (.string xv) from HS0.out)
      go_region_held3 (fun W' => W'.cell? ⟨e, 0, none⟩ = some (.pointer (some ⟨tb, 0, none⟩)) ∧ W'.cell? ⟨gh, 0, none⟩ = some (.string xn) ∧ W'.cell? ⟨gh, 1, none⟩ = some (.string xv)) (first | with_reducible exact HS0.out | with_reducible exact HS0d.out | with_reducible exact HS2.out | with_reducible exact HS2d.out) (first
        | (go_at_call 137
           with_reducible refine Calls.mono HFd.out ?_
           rintro r w2 ⟨rfl, hb2⟩
           have hb2 : Below W1.heap.size W1 w2 := below_of_drew hb2
           have HB2 := Lib.hid hb2
           have HS2 := Lib.hid (show w2.cell? ⟨e, 0, none⟩ = some (.pointer (some ⟨tb, 0, none⟩)) ∧ w2.cell? ⟨gh, 0, none⟩ = some (.string xn) ∧ w2.cell? ⟨gh, 1, none⟩ = some (.string xv) from
             ⟨(HE.out.below (HBx.out.trans (hb2.mono HBx.out.size)) HE.out.lt).cell 0, (HX.out.below hb2 HX.out.lt).cell 0, (HX.out.below hb2 HX.out.lt).cell 1⟩)
           have HS2d := Lib.hid (show w2.drew.cell? ⟨e, 0, none⟩ = some (.pointer (some ⟨tb, 0, none⟩)) ∧ w2.drew.cell? ⟨gh, 0, none⟩ = some (.string xn) ∧ w2.drew.cell? ⟨gh, 1, none⟩ = some (.string xv) from HS2.out)
           clear hb2)
        | fail)
      all_goals
        have HX2 := Lib.hid (HX.out.below HB2.out HX.out.lt)
        have h2 : w2.cell? ⟨gh, 2, none⟩ = some (.bool false) := HX2.out.cell 2
        have hgw : gh ≤ W1.heap.size := by rw [← HGh.out]; have := HX.out.lt; rw [← HGh.out] at this; omega
        have HR2 := Lib.hid (HRx.out.below (HB2.out.mono hgw))
        have HBw := Lib.hid (HBx.out.trans (HB2.out.mono HBx.out.size))
        have HP := Lib.hid (fun W (hb : Below w2.heap.size w2 W) => putint_any Ab j cb (ixB (ix.take j)) i W gh (HR2.out.below (hb.mono (Nat.le_trans hgw HB2.out.size))) (Nat.le_trans (Nat.le_trans hgw HB2.out.size) hb.size) (by have := HJ.out.1; have := HH.out.2.2.2; omega) (stat8_lt HI.out.2).2)
        clear hgw
        go_wp2_with (first
          | (go_at_call 138
             refine Calls.mono (HP.out _ (by first | exact Below.refl _ _ | exact (Below.refl _ _).drew)) ?_
             rintro r w3 ⟨A3, c3, rfl, ho3, hb3⟩
             have HO3 := Lib.hid ho3
             have HB3 := Lib.hid hb3
             clear ho3 hb3)
          | fail)
        have hn9 := HH.out.2.2.2
        have hc3 : j + 1 ≤ c3 := by
          obtain ⟨_, _, e3, h3, _⟩ := HO3.out.form
          injection e3 with _ _ e4
          omega
        have ew : wrap64 ((j : Int) + 1) = ((j + 1 : Nat) : Int) := by unfold wrap64; omega
        have ex : ixB (ix.take (j + 1)) = ixB (ix.take j) ++ [UInt8.ofNat (128 + i)] := by
          unfold ixB
          rw [List.take_add_one, HI.out.1]
          simp
        rw [ew]
        refine ⟨⟨j + 1, c3, A3, rfl, rfl, hlt, hc3, by rw [ex]; exact HO3.out.rd, ?_⟩, by simp [intOf]; omega⟩
        first
          | exact HBw.out.trans (HB3.out.mono HBw.out.size)
          | exact HBw.out.drew.trans (HB3.out.mono HBw.out.size)
    · obtain rfl : j = n := by omega
      have hge : ¬ ((j : Int) < (j : Int)) := by omega
      have et : ix.take j = ix := List.take_of_length_le (Nat.le_of_eq (HH.out.2.1.len.trans hN))
      rw [et] at hrd
      have HRd := Lib.hid hrd
      clear hrd hb hjn hjc et
      go_wp2
      go_ret
      exact ⟨Ab, cb, rfl, HJ.out.2, HRd.out, HB.out⟩
end Go.Proofs.YtkpppjhbmnfmkaaGreatDoor
end

section
namespace Go.Proofs.YtkpppjhbmnfmkaaGreatDoor
open Go.RowKit Go.Own Go.Own.Im Go.Own.Cx Go.Own.Fr
theorem enter_wrHeads : Enters Tryz.prog 179 := enters_of Tryz.func179 (by kernel_rfl) rfl
set_option maxHeartbeats 1000000 in
set_option maxRecDepth 100000 in
/-- A header list's bytes, without a priority. -/
theorem wrHeads_any (i : Inf) (sv dv : Value) (W : World) (hp : i.prio = false) : Calls Tryz.prog 179 #[.agg (infC i sv dv)] W fun e w' => e = .returned dv ∧ Below W.heap.size W w' := by
  have h17 : (infC i sv dv)[17]? = some dv := rfl
  have h7 : (infC i sv dv)[7]? = some (.bool false) := by rw [← hp]; rfl
  go_enter Tryz.func179, Tryz.ntmps179
  go_wp2
  go_ret
  exact ⟨rfl, (Below.refl _ _).alloc (Nat.le_refl _) _⟩
theorem wr_heads (i : Inf) (sv : Value) (A : Option Addr) (n c B : Nat) (W : World) (hp : i.prio = false) (hr : Rd W B A n i.data) (hB : B ≤ W.heap.size) : Calls Tryz.prog 179 #[.agg (infC i sv (.slice A n c))] W (WrPost W i.data) :=
  (wrHeads_any i sv (.slice A n c) W hp).mono fun e w' ⟨h1, h2⟩ => ⟨A, n, c, h1, (hr.more hB).below h2 |>.more h2.size, h2⟩
theorem flg_heads (s : Nat) (e eh : Bool) (l : List UInt8) : flg { typ := 1, stream := s, endd := e, endHeads := eh, data := l } = ((if e then 1 else 0) ||| (if eh then 4 else 0)) := by
  cases e <;> cases eh <;> simp [flg]
theorem bld_heads (W : World) (s : Nat) (e eh : Bool) (A : Option Addr) (n c B : Nat) (l : List UInt8) (hr : Rd W B A n l) (hB : B ≤ W.heap.size) (hn : n ≤ 1000000) (h0 : s ≠ 0) (hs : s ≤ 2147483647) : BuF W { typ := 1, stream := s, endd := e, endHeads := eh, data := l } (infC { typ := 1, stream := s, endd := e, endHeads := eh, data := l } (.slice none 0 0) (.slice A n c)) := by
  have hl := hr.1
  have hp : pay { typ := 1, stream := s, endd := e, endHeads := eh, data := l } = l := rfl
  have hf := flg_heads s e eh l
  refine ⟨fun W' hw => ?_, by show 1 ≤ 255; omega, by rw [hf]; cases e <;> cases eh <;> decide, hs, by rw [hp]; omega⟩
  exact build_any { typ := 1, stream := s, endd := e, endHeads := eh, data := l } none 0 A n c W.heap.size 179 W' ⟨by simp, by simp, by simp, by simp, hs, by simp, by simp, by simp, by simp, by simp, by simp, by simp⟩ (setR_nil W') ((hr.more hB).below hw) hw.size rfl rfl enter_wrHeads
    (fun W2 hw2 => wr_heads _ _ A n c W.heap.size W2 rfl (((hr.more hB).below hw).below (hw2.mono hw.size)) (Nat.le_trans hw.size hw2.size)) (by rw [hp]; omega) (by rw [hf, hp]; exact opn_heads s h0 e eh l) (by rw [hf]; cases e <;> cases eh <;> decide) (by rw [hf]; cases e <;> cases eh <;> simp [hasF, rowOf]) ⟨by simp, by simp, fun _ => by rw [hf]; cases e <;> cases eh <;> simp [hasF, rowOf]⟩
/-- The flags of a whole header list. -/
def hfl (fin : Bool) : Nat := if fin then 5 else 4
theorem flg_hfl (s : Nat) (e : Bool) (l : List UInt8) : flg { typ := 1, stream := s, endd := e, endHeads := true, data := l } = hfl e := by
  cases e <;> simp [flg, hfl]
theorem infC_heads (s : Nat) (e eh : Bool) (l : List UInt8) (v : Value) : infC { typ := 1, stream := s, endd := e, endHeads := eh, data := l } (.slice none 0 0) v = #[.int .i64 1, .int .i64 0, .int .i64 (s : Nat), .bool e, .bool eh, .bool false, .bool false, .bool false, .bool false, .int .i64 0, .int .i64 0, .int .i64 0, .int .i64 0, .int .i64 0, .int .i64 0, .int .i64 0, .slice none 0 0, v] := rfl
theorem hszs_len : ∀ E : List Hd.HdrV, 32 * E.length ≤ hszs E
  | [] => Nat.zero_le _
  | x :: E => by
    have := hszs_len E
    have e : hszs (x :: E) = hsz x + hszs E := by simp [hszs]
    rw [e, List.length_cons]
    have : 32 ≤ hsz x := by unfold hsz; omega
    omega
set_option maxHeartbeats 8000000 in
set_option maxRecDepth 100000 in
theorem heads8_any (w : World) (ow : Nat → Tg) (b : Nat) (M : Cv) (L : Lay) (id c : Nat) (fin : Bool) (A : Option Addr) (hs : List Hd.HdrV) (ix : List Nat) (h : CN w ow b M L) (hr : Cm.RS hdrC 3 w w.heap.size A hs.length hs) (hix : Ix8 ix hs) (hnv : ∀ x ∈ hs, x.never = false) (hn : hs.length ≤ 1000) (h0 : id ≠ 0) (hid : id ≤ 2147483647) (ho : M.out.length ≤ 1000000000)
    (m : Int) (hm : w.cell? ⟨13, 0, none⟩ = some (.int .i64 m)) :
    Calls Tryz.prog 60 #[.pointer (some ⟨b, 0, none⟩), .int .i64 (id : Nat), .slice A hs.length c, .bool fin] w (CPostL w ow b L { M with out := M.out ++ frameB 1 (hfl fin) id (ixB ix) } (.tuple #[])) := by
  obtain ⟨tb, least, E, most, hbe, _, _, r, old, cs, hbt, _, _, _, _, _, hle, hmo, _⟩ := h.p.enc
  have hE := hszs_len E
  have HEn := Lib.hid (encode8_any w L.enc tb least old E.length (hszs E) most c _ A hs ix hbe hbt (by omega) hr hix hnv hn m hm)
  have c21 : w.cell? ⟨b, 21, none⟩ = some (.pointer (some ⟨L.enc, 0, none⟩)) := h.blk.cell 21
  have HC := Lib.hid h
  have HH := Lib.hid (show _ ∧ _ ∧ _ ∧ _ from ⟨hn, h0, hid, ho⟩)
  have hl := hix.len
  generalize hN : hs.length = n at *
  clear h hr hix hnv h0 hid ho hbe hbt hle hmo hE hm
  go_enter Tryz.func60, Tryz.ntmps60
  go_wp2_with fail
  refine HEn.out.mono ?_
  rintro e w1 ⟨A1, c1, rfl, hc1, hr1, hb1⟩
  have HF1 := Lib.hid (Fr.below hb1 ow)
  obtain ⟨A2, hr2, hrun2⟩ := cut_head (P := Tryz.prog) (t := 22) byteP hr1 (n : Int) rfl (Nat.le_refl _) hc1
  rw [List.take_of_length_le (Nat.le_of_eq hr1.1)] at hr2
  obtain ⟨A3, hA3⟩ : ∃ A3, (if c1 = n then A1 else A1.map fun y => y.add n) = A3 := ⟨_, rfl⟩
  have hrun3 : ∀ W, (Instr.slice 22 (.slice A1 n c1) (some (.int .i64 (n : Int))) none none).run Tryz.prog W = .ok (.slice A3 0 (c1 - n)) W := fun W => by
    have := run_from (P := Tryz.prog) (t := 22) byteP A1 n c1 n (Nat.le_refl _) hc1 W
    rw [hA3, Nat.sub_self] at this
    exact this
  have HP := put_anyL w1 ow b M L _ _ (HC.out.below hb1) rfl (bld_heads w1 id fin true A2 n c1 w1.heap.size (ixB ix) hr2 (Nat.le_refl _) (by have := HH.out.1; omega) HH.out.2.1 HH.out.2.2.1) HH.out.2.2.2
  rw [infC_heads, flg_hfl] at HP
  have HP := Lib.hid HP
  have hmin : min (n : Int) 16384 = (n : Int) := by have := HH.out.1; omega
  clear hr1 hb1 c21 hr2 hA3
  go_wp2_with fail
  refine HP.out.mono ?_
  intro e w3 hp
  obtain rfl := hp.cp.ret
  have HQ := Lib.hid hp
  clear hp
  go_upto_region 4 with fail
  go_loopw [8] (fun bv wr => bv = .slice A3 0 (c1 - n) ∧ wr = w3) (fun _ _ => 0)
  case atStart => exact ⟨rfl, rfl⟩
  case round =>
    obtain ⟨rfl, rfl⟩ := hrel
    go_wp2
    go_end0
    obtain ⟨ow', L', h1, h2, h3, h4⟩ := HQ.out
    exact ⟨ow', L', h1, h2, HF1.out.trans h3, h4⟩
end Go.Proofs.YtkpppjhbmnfmkaaGreatDoor
end

section
namespace Go.Proofs.YtkpppjhbmnfmkaaGreatDoor
open Go.RowKit Go.Own Go.Own.Im Go.Own.Cx Go.Own.Fr
attribute [local go_sem] Oper.semAt_some
/-- What befalls streams, one by one. -/
def goM (M : Cv) (last : Nat) : List Sv → Cv
  | [] => M
  | s :: r => goM (if last < s.id then dropM { M with evs := M.evs ++ [{ kind := 4, stream := s.id, code := 7 }] } s.id else M) last r
/-- The state behind a GOAWAY, at a client. -/
def awayM (M : Cv) (last code : Nat) : Cv := goM { M with evs := M.evs ++ [{ kind := 6, last := last, code := code }], gone := true } last M.strs
theorem CN.gones {w : World} {ow : Nat → Tg} {b : Nat} {M : Cv} {L : Lay} (h : CN w ow b M L) : CN (w.setCell ⟨b, 18, none⟩ (.bool true)) ow b { M with gone := true } L ∧ Fr w ow (w.setCell ⟨b, 18, none⟩ (.bool true)) ow := h.cell 18 _ rfl h.p
theorem CPost.outs {w w' : World} {ow : Nat → Tg} {b : Nat} {M' : Cv} {v : Value} {e : Ending} (h : CPost w ow b M' v e w') : ∃ ow' L', CN w' ow' b M' L' ∧ Fr w ow w' ow' := by
  obtain ⟨ow', L', _, h1, h2⟩ := h
  exact ⟨ow', L', h1, h2⟩
/-- Between two rounds. -/
def GaR (M M1 : Cv) (last b : Nat) (w2 : World) (ow2 : Nat → Tg) (iv : Value) (wr : World) : Prop :=
  ∃ (k : Nat) (Mk : Cv) (ow' : Nat → Tg) (L' : Lay), iv = .int .i64 (k : Nat) ∧ k ≤ M.strs.length ∧ goM Mk last (M.strs.drop k) = goM M1 last M.strs ∧ CN wr ow' b Mk L' ∧ Fr w2 ow2 wr ow' ∧ Mk.side = 1 ∧
    (∀ s ∈ M.strs.drop k, s ∈ Mk.strs) ∧ (Mk.strs.map (·.id)).Pairwise (· < ·) ∧ Mk.evs.length ≤ 700001 + k
set_option maxHeartbeats 8000000 in
set_option maxRecDepth 100000 in
theorem works6_any (w : World) (ow : Nat → Tg) (b g : Nat) (M : Cv) (L : Lay) (i : Inf) (sv dv sz : Value) (h : CN w ow b M L) (hg : Blk w g 26 #[.pointer (some ⟨b, 0, none⟩)]) (hgo : ow g = .no) (hside : M.side = 1) (hsrt : (M.strs.map (·.id)).Pairwise (· < ·)) (hn : M.strs.length ≤ 10000)
    (hids : ∀ s ∈ M.strs, s.id ≤ 2147483647) (hheld : ∀ s ∈ M.strs, s.held = 0) (hev : M.evs.length ≤ 700000) :
    Calls Tryz.prog 157 #[.agg (infC i sv dv), sz, .pointer (some ⟨g, 0, none⟩)] w (CPostS w ow b (fun M' => M' = awayM M i.last i.code) (.tuple #[])) := by
  have HX := Lib.hid (Blk.new w 91 (infC i sv dv))
  have HB0 := Lib.hid ((Below.refl w.heap.size w).alloc (Nat.le_refl _) (.cells (infC i sv dv) 91))
  have HC := Lib.hid h
  have HG := Lib.hid hg
  have HGo := Lib.hid hgo
  have HXo := Lib.hid (h.new w.heap.size (Nat.le_refl _))
  have HH := Lib.hid (show _ ∧ _ ∧ _ ∧ _ ∧ _ ∧ _ from ⟨hside, hsrt, hn, hids, hheld, hev⟩)
  clear h hg hgo hside hsrt hn hids hheld hev
  go_enter Tryz.func157, Tryz.ntmps157
  go_upto_region 1 with fail
  generalize w.alloc (.cells (infC i sv dv) 91) = W0 at *
  have HC0 := Lib.hid (HC.out.below HB0.out)
  have g0 : W0.cell? ⟨g, 0, none⟩ = some (.pointer (some ⟨b, 0, none⟩)) := (HG.out.below HB0.out HG.out.lt).cell 0
  have x13 : W0.cell? ⟨w.heap.size, 13, none⟩ = some (.int .i64 (i.last : Nat)) := HX.out.cell 13
  have x12 : W0.cell? ⟨w.heap.size, 12, none⟩ = some (.int .i64 (i.code : Nat)) := HX.out.cell 12
  have HT := tell_any W0 ow b M L { kind := 6, last := i.last, code := i.code } HC0.out (evOk_plain W0 ow 6 0 i.code i.last false) (by have := HH.out.2.2.2.2.2; omega)
  rw [evC_plain] at HT
  have HT := Lib.hid HT
  go_wp2_with fail
  refine HT.out.mono ?_
  intro e w1 hp
  obtain rfl := hp.ret
  obtain ⟨ow1, L1, hc1, hf1⟩ := hp.outs
  have HC1 := Lib.hid hc1
  have HF1 := Lib.hid ((Fr.below HB0.out ow).trans hf1)
  have HX1 := Lib.hid (hf1.blk HX.out HXo.out)
  have HG1 := Lib.hid (HF1.out.blk HG.out HGo.out)
  have HXn := Lib.hid (show ow1 w.heap.size = .no from hf1.no _ HX.out.lt HXo.out)
  have HGn := Lib.hid (show ow1 g = .no from HF1.out.no _ HG.out.lt HGo.out)
  have g1 : w1.cell? ⟨g, 0, none⟩ = some (.pointer (some ⟨b, 0, none⟩)) := HG1.out.cell 0
  have c18 : w1.cell? ⟨b, 18, none⟩ = some (.bool M.gone) := hc1.blk.cell 18
  have f18 := hc1.blk.frozen 18
  clear g0 x13 x12 hc1 hf1 hp
  go_upto_region 3 with fail
  have hgn := HC1.out.gones
  have HC2 := Lib.hid hgn.1
  have HF2 := Lib.hid (HF1.out.trans hgn.2)
  have HX2 := Lib.hid (hgn.2.blk HX1.out HXn.out)
  have HG2 := Lib.hid (hgn.2.blk HG1.out HGn.out)
  clear hgn g1 c18 f18
  generalize w1.setCell ⟨b, 18, none⟩ (.bool true) = W2 at *
  have g2 : W2.cell? ⟨g, 0, none⟩ = some (.pointer (some ⟨b, 0, none⟩)) := HG2.out.cell 0
  go_wp2_with fail
  refine (ids_any W2 ow1 b _ L1 HC2.out HH.out.2.1 (by have := HH.out.2.2.1; show M.strs.length ≤ _; omega)).mono ?_
  rintro e w3 ⟨v, rfl, hrow, hb3⟩
  have HRow := Lib.hid (show w3.ownsRow W2.heap.size 3 1 v M.strs.length ((M.strs.map fun s => (s.id : Int)).map encZ) from hrow)
  have hv : ∃ A c, v = .slice A M.strs.length c ∧ M.strs.length ≤ c := by
    rcases hrow.2 with ⟨rfl, h0⟩ | ⟨g, cap, cur, rfl, _, _, h1, _⟩
    · exact ⟨none, 0, congrArg (fun k => Value.slice none k 0) h0.symm, Nat.le_of_eq h0⟩
    · exact ⟨_, _, rfl, h1⟩
  obtain ⟨A3, c3, rfl, _⟩ := hv
  have HC3 := Lib.hid (HC2.out.below hb3)
  have HF3 := Lib.hid (HF2.out.trans (Fr.below hb3 ow1))
  have HX3 := Lib.hid (HX2.out.below hb3 HX2.out.lt)
  have HG3 := Lib.hid (HG2.out.below hb3 HG2.out.lt)
  clear hrow hb3 g2
  have HAn := Lib.hid (show ∀ j, W2.heap.size ≤ j → ow1 j = .no from HC2.out.new)
  go_upto_region 4 with fail
  go_loopw [20] (fun iv wr => Hid (GaR M { M with evs := M.evs ++ [{ kind := 6, last := i.last, code := i.code }], gone := true } i.last b w3 ow1 iv wr)) (fun iv _ => M.strs.length - (intOf iv).toNat)
  case atStart => exact ⟨0, _, ow1, _, rfl, Nat.zero_le _, rfl, HC3.out, Fr.refl _ _, HH.out.1, fun s hs => hs, HH.out.2.1, by show (M.evs ++ [_]).length ≤ _; rw [List.length_append]; have := HH.out.2.2.2.2.2; show M.evs.length + 1 ≤ _; omega⟩
  case round =>
    obtain ⟨k, Mk, ow4, L4, rfl, hk, hgo4, hc4, hf4, hsd, hmem, hsrt4, hev4⟩ := hrel
    by_cases hlt : k < M.strs.length
    · obtain ⟨s, hs⟩ : ∃ s, M.strs[k]? = some s := ⟨_, List.getElem?_eq_getElem hlt⟩
      have hms := List.mem_of_getElem? hs
      have hsid := HH.out.2.2.2.1 s hms
      have hsh := HH.out.2.2.2.2.1 s hms
      have hdk : M.strs.drop k = s :: M.strs.drop (k + 1) := by
        rw [List.drop_eq_getElem_cons hlt]
        have := List.getElem?_eq_getElem hlt
        rw [hs] at this
        injection this with this
        rw [this]
      have HSx := Lib.hid (show ∀ x ∈ M.strs.drop (k + 1), s.id < x.id from by
        have hp : ((M.strs.drop k).map (·.id)).Pairwise (· < ·) := by
          rw [List.map_drop]
          exact HH.out.2.1.sublist (List.drop_sublist _ _)
        rw [hdk, List.map_cons, List.pairwise_cons] at hp
        exact fun x hx => hp.1 x.id (List.mem_map.2 ⟨x, hx, rfl⟩))
      rw [hdk] at hgo4 hmem
      have hin := hmem s (List.mem_cons_self ..)
      have hcell : ∃ gA, A3 = some ⟨gA, 0, none⟩ ∧ wr.cell? ⟨gA, k, none⟩ = some (.int .i64 (s.id : Nat)) := by
        have hr := HRow.out
        rcases hr.2 with ⟨e, h0⟩ | ⟨gA, cap, cur, e, hge, hgb, _⟩
        · omega
        · injection e with e1 e2 e3
          subst e1
          refine ⟨gA, rfl, ?_⟩
          have hcl := World.ownsRow.cells hr (g := gA) rfl k (.int .i64 (s.id : Nat)) (by simp [hs, encZ])
          rw [Addr.add_lit, Nat.zero_add] at hcl
          exact (World.cell?_of_block (a := ⟨gA, k, none⟩) (hf4.keep gA (Array.getElem?_eq_some_iff.1 hgb).1 (HAn.out gA hge))).trans hcl
      obtain ⟨gA, rfl, hcell⟩ := hcell
      have hg4 := hf4.blk HG3.out HGn.out
      have hx4 := hf4.blk HX3.out HXn.out
      have g4 : wr.cell? ⟨g, 0, none⟩ = some (.pointer (some ⟨b, 0, none⟩)) := hg4.cell 0
      have x13 : wr.cell? ⟨w.heap.size, 13, none⟩ = some (.int .i64 (i.last : Nat)) := hx4.cell 13
      have c0 : wr.cell? ⟨b, 0, none⟩ = some (.int .i64 (Mk.side : Nat)) := hc4.blk.cell 0
      rw [hsd] at c0
      have HC4 := Lib.hid hc4
      have HF4 := Lib.hid hf4
      have HS4 := Lib.hid (show _ ∧ _ ∧ _ ∧ _ ∧ _ ∧ _ ∧ _ ∧ _ from ⟨hsd, hmem, hsrt4, hev4, hsid, hsh, hin, hgo4⟩)
      have HG4 := Lib.hid hg4
      have HGm := Lib.hid (show ow4 g = .no from hf4.no _ HG3.out.lt HGn.out)
      have HK := Lib.hid (show k < M.strs.length ∧ M.strs.length ≤ 10000 from ⟨hlt, HH.out.2.2.1⟩)
      have hlt2 : (k : Int) < (M.strs.length : Int) := by omega
      have ew : wrap64 ((k : Int) + 1) = ((k + 1 : Nat) : Int) := by have := HH.out.2.2.1; unfold wrap64; omega
      have EW := Lib.hid ew
      clear hgo4 hc4 hf4 hsd hmem hsrt4 hev4 hms hsid hsh hin hg4 hx4 hs hk hdk ew
      by_cases hl : i.last < s.id
      · have hl2 : (i.last : Int) < (s.id : Int) := by omega
        have HT := tell_any wr ow4 b Mk L4 { kind := 4, stream := s.id, code := 7 } HC4.out (evOk_plain wr ow4 4 s.id 7 0 false) (by have := HS4.out.2.2.2.1; have := HK.out; omega)
        rw [evC_plain] at HT
        have HT := Lib.hid HT
        go_wp2_with fail
        refine HT.out.mono ?_
        intro e w5 hp
        obtain rfl := hp.ret
        obtain ⟨ow5, L5, hc5, hf5⟩ := hp.outs
        have g5 : w5.cell? ⟨g, 0, none⟩ = some (.pointer (some ⟨b, 0, none⟩)) := (hf5.blk HG4.out HGm.out).cell 0
        have hwf : (Lit.int .i64 (s.id : Int)).wf = true := by have := HS4.out.2.2.2.2.1; simp [Lit.wf, IntKind.min, IntKind.max, IntKind.bits, IntKind.signed]; omega
        have hat : strAt { Mk with evs := Mk.evs ++ [{ kind := 4, stream := s.id, code := 7 }] } (s.id : Int) = some s := strAt_mem HS4.out.2.2.1 HS4.out.2.2.2.2.2.2.1
        have hlk5 := look_str hc5 (s.id : Int) hwf
        have hlk5d := look_str hc5.drew (s.id : Int) hwf
        rw [(at_some (L := L5) hat).1] at hlk5 hlk5d
        have hlk5d : (Instr.lookup 74 (.map (some L5.mb)) (.int .i64 (s.id : Int)) false).run Tryz.prog w5.drew = .ok (.pointer (some ⟨(L5.s s.id).sb, 0, none⟩)) w5.drew := hlk5d
        have c15 : w5.cell? ⟨b, 15, none⟩ = some (.map (some L5.mb)) := hc5.blk.cell 15
        have HLv := Lib.hid (leaves0_same w5.drew ow5 b _ L5 s hc5.drew (show s ∈ Mk.strs from HS4.out.2.2.2.2.2.2.1) HS4.out.2.2.2.2.2.1 HS4.out.2.2.2.2.1 (HS4.out.2.2.1.imp fun h => Nat.ne_of_lt h))
        have HF5 := Lib.hid ((HF4.out.trans hf5).drew)
        have HGm5 := Lib.hid (hf5.no _ HG4.out.lt HGm.out)
        have HG5 := Lib.hid (hf5.blk HG4.out HGm.out)
        have HU0 := Lib.hid (show w5.cell? ⟨g, 0, none⟩ = some (.pointer (some ⟨b, 0, none⟩)) ∧ w5.cell? ⟨b, 15, none⟩ = some (.map (some L5.mb)) from ⟨g5, c15⟩)
        have HU0d := Lib.hid (show w5.drew.cell? ⟨g, 0, none⟩ = some (.pointer (some ⟨b, 0, none⟩)) ∧ w5.drew.cell? ⟨b, 15, none⟩ = some (.map (some L5.mb)) from ⟨g5, c15⟩)
        clear hp hc5 hf5 hwf hat g4 x13 c0
        go_wp2_with fail
        go_region_held3 (fun W' => W'.cell? ⟨g, 0, none⟩ = some (.pointer (some ⟨b, 0, none⟩)) ∧ W'.cell? ⟨b, 15, none⟩ = some (.map (some L5.mb))) (first | with_reducible exact HU0.out | with_reducible exact HU0d.out | with_reducible exact HU6.out | with_reducible exact HU6d.out) (first
          | (go_at_call 110
             with_reducible refine Calls.mono HLv.out ?_
             rintro e w6 ⟨rfl, hc6, hf6⟩
             have HC6 := Lib.hid hc6
             have HF6 := Lib.hid (HF5.out.trans hf6)
             have HU6 := Lib.hid (show w6.cell? ⟨g, 0, none⟩ = some (.pointer (some ⟨b, 0, none⟩)) ∧ w6.cell? ⟨b, 15, none⟩ = some (.map (some L5.mb)) from
               ⟨(hf6.blk (show Blk w5.drew g 26 #[.pointer (some ⟨b, 0, none⟩)] from HG5.out) HGm5.out).cell 0, hc6.blk.cell 15⟩)
             have HU6d := Lib.hid (show w6.drew.cell? ⟨g, 0, none⟩ = some (.pointer (some ⟨b, 0, none⟩)) ∧ w6.drew.cell? ⟨b, 15, none⟩ = some (.map (some L5.mb)) from HU6.out)
             clear hc6 hf6)
          | fail)
        all_goals
          have HC7 := Lib.hid (show CN _ ow5 b _ L5 from HC6.out)
          go_wp2
          rw [EW.out]
          refine ⟨⟨k + 1, dropM { Mk with evs := Mk.evs ++ [{ kind := 4, stream := s.id, code := 7 }] } s.id, ow5, L5, rfl, HK.out.1, ?_, ?_, ?_, HS4.out.1, fun x hx => ?_, ?_, ?_⟩, by simp [intOf]; have := HK.out.1; omega⟩
          · have hg := HS4.out.2.2.2.2.2.2.2
            rw [goM, if_pos hl] at hg
            exact hg
          · first | exact HC7.out | exact HC7.out.drew
          · first | exact HF6.out | exact HF6.out.drew
          · refine List.mem_filter.2 ⟨HS4.out.2.1 x (List.mem_cons_of_mem _ hx), ?_⟩
            have := HSx.out x hx
            simp
            omega
          · exact HS4.out.2.2.1.sublist ((List.filter_sublist ..).map _)
          · show (Mk.evs ++ [_]).length ≤ _
            rw [List.length_append]
            have := HS4.out.2.2.2.1
            show Mk.evs.length + 1 ≤ _
            omega
      · have hl2 : ¬ (i.last : Int) < (s.id : Int) := by omega
        go_wp2
        rw [EW.out]
        refine ⟨⟨k + 1, Mk, ow4, L4, rfl, HK.out.1, ?_, HC4.out, HF4.out, HS4.out.1, fun x hx => HS4.out.2.1 x (List.mem_cons_of_mem _ hx), HS4.out.2.2.1, by have := HS4.out.2.2.2.1; omega⟩, by simp [intOf]; have := HK.out.1; omega⟩
        have hg := HS4.out.2.2.2.2.2.2.2
        rw [goM, if_neg hl] at hg
        exact hg
    · obtain rfl : k = M.strs.length := by omega
      rw [List.drop_length] at hgo4
      have HQ := Lib.hid (show CPostS w ow b (fun M' => M' = awayM M i.last i.code) (.tuple #[]) (.returned (.tuple #[])) wr from ⟨Mk, hgo4, ow4, L4, rfl, hc4, HF3.out.trans hf4⟩)
      have hge : ¬ ((M.strs.length : Int) < (M.strs.length : Int)) := by omega
      clear hgo4 hc4 hf4 hsd hmem hsrt4 hev4 hk hlt
      go_wp2
      go_end0
      exact HQ.out
end Go.Proofs.YtkpppjhbmnfmkaaGreatDoor
end

section
namespace Go.Proofs.YtkpppjhbmnfmkaaGreatDoor
open Go.RowKit Go.Own Go.Own.Im Go.Own.Cx Go.Own.Fr Go.Own.Hd
theorem enter_works6 : Enters Tryz.prog 157 := enters_of Tryz.func157 (by kernel_rfl) rfl
/-- A GOAWAY, at a client. -/
theorem takes_away (M : Cv) (last code : Nat) (hg : M.greeted = true) (hl : M.list = none) (hside : M.side = 1) (hla : last < 2147483648) (hco : code < 4294967296) (hsrt : (M.strs.map (·.id)).Pairwise (· < ·)) (hn : M.strs.length ≤ 10000) (hids : ∀ s ∈ M.strs, s.id ≤ 2147483647) (hheld : ∀ s ∈ M.strs, s.held = 0) (hev : M.evs.length ≤ 700000) :
    TakesT M 7 0 0 (be last 4 ++ be code 4) (fun M' => M' = awayM M last code) := by
  intro w ow b L A c hE h hr hno hc
  have hM : ({ M with greeted := true } : Cv) = M := by
    cases M
    simp only at hg
    subst hg
    rfl
  have hlen : (be last 4 ++ be code 4).length = 8 := by simp [be_len]
  refine takes_any w ow b M L _ 7 0 0 157 #[] (fun g => #[.pointer (some ⟨g, 0, none⟩)]) A _ c _ { typ := 7, last := last, code := code } h hr hno hc (by omega) (by decide) (by decide) (by decide) rfl (by decide) hl (by decide) (.inl hg) (opn_goaway last code hla hco) (fun g => rfl) enter_works6 (fun e w' hq => .inl hq.ret) ?_
  intro W g sv dv hcW hfW hbk hg' hs' hd
  rw [hM] at hcW
  exact (works6_any W ow b g M L { typ := 7, last := last, code := code } sv dv _ hcW hbk (h.new g hg') hside hsrt hn hids hheld hev).mono fun e w' hp => hp.trans hfW
/-- A stream that came whole. -/
def oS (k : Nat) : Sv := endS { id := 2 * k + 1, other := 1, inw := 65535, outw := 65535 } true
/-- A server that lets lim streams be, behind its greeting. -/
def baseM (lim : Nat) : Cv := { setM { newM 2 65535 lim with out := [], preface := 24 } with evs := [], out := [] }
/-- What refuses the streams from k on, n of them. -/
def refB (k : Nat) : Nat → List UInt8
  | 0 => []
  | n + 1 => refB k n ++ frameB 3 0 (2 * (k + n) + 1) (be 7 4)
/-- The same, behind i streams. -/
def stM (lim i : Nat) : Cv := { baseM lim with last := 2 * i - 1, strs := (List.range (min i lim)).map oS, out := refB lim (i - lim) }
theorem refB_len (k : Nat) : ∀ n, (refB k n).length = 13 * n
  | 0 => rfl
  | n + 1 => by simp [refB, refB_len k n, frameB_len, be_len]; omega
theorem oS_id (k : Nat) : (oS k).id = 2 * k + 1 := rfl
theorem stM_ids (lim i : Nat) : (stM lim i).strs.map (·.id) = (List.range (min i lim)).map fun k => 2 * k + 1 := by
  show ((List.range (min i lim)).map oS).map (·.id) = _
  rw [List.map_map]
  rfl
theorem stM_known (lim i : Nat) : knownB (stM lim i) (2 * i + 1) = false := by
  unfold knownB
  exact decide_eq_false fun h => by have := h.2; change 2 * i + 1 ≤ 2 * i - 1 at this; omega
theorem stM_new (lim i : Nat) : ∀ s ∈ (stM lim i).strs, s.id ≠ 2 * i + 1 := by
  intro s hs
  change s ∈ (List.range (min i lim)).map oS at hs
  obtain ⟨k, hk, rfl⟩ := List.mem_map.1 hs
  have := List.mem_range.1 hk
  rw [oS_id]
  omega
theorem stM_none (lim i : Nat) : strAt (stM lim i) ((2 * i + 1 : Nat) : Int) = none := by
  refine List.find?_eq_none.2 fun s hs => ?_
  have := stM_new lim i s hs
  simp
  omega
theorem stM_sorted (lim i : Nat) : ((stM lim i).strs.map (·.id)).Pairwise (· < ·) := by
  rw [stM_ids, List.pairwise_map]
  exact List.pairwise_lt_range.imp fun h => by omega
theorem stM_len (lim i : Nat) : (stM lim i).strs.length = min i lim := by
  show ((List.range (min i lim)).map oS).length = _
  simp
/-- A stream more, that is let be. -/
theorem runsS_open (lim i : Nat) (hi : i < lim) (hl : lim ≤ 100) : Runs 1 { stM lim i with evs := [], fed := (stM lim i).fed ++ frameB 1 5 (2 * i + 1) b3 } (fun M' => ∃ A c, M' = { stM lim (i + 1) with evs := [{ kind := 1, stream := 2 * i + 1, fin := true, la := A, lc := c, l := hs3 }] }) := by
  have hnd : ((stM lim i).strs.map (·.id)).Nodup := (stM_sorted lim i).imp fun h => Nat.ne_of_lt h
  have hlen := stM_len lim i
  have hcs : (stM lim i).cs = (lim : Int) := rfl
  refine .more rfl (step_takes _ _ 1 5 (2 * i + 1) b3 [] rfl (by show frameB 1 5 (2 * i + 1) b3 = _; rw [List.append_nil]) (by decide) (by decide) (by omega) (by decide) (flag5 ▸ takes_open (stM lim i) (2 * i + 1) true b3 hs3 ix3 (by decide) rfl rfl rfl (by omega) (stM_known lim i) (stM_none lim i) (by omega) (stM_new lim i) (by rw [hlen, hcs]; omega) rfl (show (0 : Int) ≤ 65535 ∧ (65535 : Int) ≤ 2147483647 by decide) (show (0 : Int) ≤ 65535 ∧ (65535 : Int) ≤ 2147483647 by decide) (by rw [hlen]; omega) hnd (by decide) (Nat.zero_le _) szs3 opn3)) fun M1 h1 => ?_
  obtain ⟨A, c, rfl⟩ := h1
  have e : opnM (stM lim i) (2 * i + 1) true hs3 A c = { stM lim (i + 1) with evs := [{ kind := 1, stream := 2 * i + 1, fin := true, la := A, lc := c, l := hs3 }] } := by
    have e1 : (stM lim i).strs ++ [oS i] = (stM lim (i + 1)).strs := by
      show (List.range (min i lim)).map oS ++ [oS i] = (List.range (min (i + 1) lim)).map oS
      rw [show min i lim = i by omega, show min (i + 1) lim = i + 1 by omega, List.range_succ, List.map_append]
      rfl
    have e2 : (stM lim i).out = (stM lim (i + 1)).out := by
      show refB lim (i - lim) = refB lim (i + 1 - lim)
      rw [show i - lim = 0 by omega, show i + 1 - lim = 0 by omega]
    have e3 : 2 * i + 1 = (stM lim (i + 1)).last := by show 2 * i + 1 = 2 * (i + 1) - 1; omega
    show ({ stM lim i with last := 2 * i + 1, strs := (stM lim i).strs ++ [oS i], evs := _ } : Cv) = _
    rw [e1]
    show ({ side := _, cw := _, cs := _, fed := _, greeted := _, preface := _, out := (stM lim i).out, evs := _, inw := _, outw := _, window := _, others := _, limit := _, acked := _, last := _, strs := _, list := _, bye := _, gone := _, dead := _, code := _ } : Cv) = _
    rw [e2, e3]
    rfl
  rw [e]
  exact .stop rfl ((step_few _ rfl (by show ([] : List UInt8).length < 9; decide)).mono fun M' h' => ⟨A, c, h'⟩)
/-- A stream more, that is refused. -/
theorem runsS_many (lim i : Nat) (hi : lim ≤ i) (hn : i ≤ 1000) : Runs 1 { stM lim i with evs := [], fed := (stM lim i).fed ++ frameB 1 5 (2 * i + 1) b3 } (fun M' => M' = stM lim (i + 1)) := by
  have hlen := stM_len lim i
  have hcs : (stM lim i).cs = (lim : Int) := rfl
  have hout : (stM lim i).out.length = 13 * (i - lim) := refB_len lim (i - lim)
  refine .more rfl (step_takes _ _ 1 5 (2 * i + 1) b3 [] rfl (by show frameB 1 5 (2 * i + 1) b3 = _; rw [List.append_nil]) (by decide) (by decide) (by omega) (by decide) (flag5 ▸ takes_many (stM lim i) (2 * i + 1) true b3 hs3 ix3 (by decide) rfl rfl rfl (by omega) (stM_known lim i) (stM_none lim i) (by omega) (by rw [hlen, hcs]; omega) (by rw [hout]; omega))) fun M1 h1 => ?_
  have e : refM (stM lim i) (2 * i + 1) = stM lim (i + 1) := by
    have e1 : (stM lim i).strs = (stM lim (i + 1)).strs := by
      show (List.range (min i lim)).map oS = (List.range (min (i + 1) lim)).map oS
      rw [show min i lim = min (i + 1) lim by omega]
    have e2 : (stM lim i).out ++ frameB 3 0 (2 * i + 1) (be 7 4) = (stM lim (i + 1)).out := by
      show refB lim (i - lim) ++ _ = refB lim (i + 1 - lim)
      rw [show i + 1 - lim = (i - lim) + 1 by omega, refB, show lim + (i - lim) = i by omega]
    have e3 : 2 * i + 1 = (stM lim (i + 1)).last := by show 2 * i + 1 = 2 * (i + 1) - 1; omega
    unfold refM
    rw [e2]
    show ({ side := _, cw := _, cs := _, fed := _, greeted := _, preface := _, out := _, evs := _, inw := _, outw := _, window := _, others := _, limit := _, acked := _, last := _, strs := (stM lim i).strs, list := _, bye := _, gone := _, dead := _, code := _ } : Cv) = _
    rw [e1, e3]
    rfl
  subst h1
  have h2 : refM { ({ stM lim i with evs := [], fed := (stM lim i).fed ++ frameB 1 5 (2 * i + 1) b3 } : Cv) with fed := [] } (2 * i + 1) = stM lim (i + 1) := e
  rw [e]
  exact .stop rfl ((step_few _ rfl (by show ([] : List UInt8).length < 9; decide)).mono fun M' h' => h')
end Go.Proofs.YtkpppjhbmnfmkaaGreatDoor
end
