/-
  Contracts: slices.Sorted(maps.Keys(m)) at the streams: (*Conn).ids; Streams.
  Contract: (*Conn).Output where nothing may be sent.
-/
import Derived.Test.YtkpppjhbmnfmkaaGreatDoorC3
import Derived.Test.YtkpppjhbmnfmkaaGreatDoorShelf
import Derived.Lib.SlKeysI
set_option linter.unusedSimpArgs false
set_option linter.unusedVariables false
section
namespace Go.Proofs.YtkpppjhbmnfmkaaGreatDoor
open Go.RowKit Go.Own Go.Own.Im Go.Own.Cx Go.Maps Go.Sort Go.Shelf
theorem sorts_in (m : Nat) : AnyZI.SortsIn Tryz.prog Tryz.sortedA_ren Fence.wide m :=
  ⟨fun blk off cap ss W hH hblk hsz => callsIn_wide.2 (AnyM.slices_Sort_int Tryz.sortA blk off cap ss W hH hblk hsz),
   fun p cap W => callsIn_wide.2 (AnyM.slices_Sort_int_none Tryz.sortA p cap W)⟩
/-- The keys, rising, are the ids. -/
theorem sorted_ids {w : World} {b : Nat} {ks : List Nat} {f : Nat → Value} {D : DataW Value} (hown : w.ownsMap Tryz.prog 3 Rh b ks.length D) (hh : ∀ k : Int, Maps.has D (il k) = ks.any fun i : Nat => decide ((i : Int) = k)) (hs : ks.Pairwise (· < ·)) {ss : List Int} (hp : ss.Perm (intKeys D)) :
    ss.mergeSort (fun x y => decide (x ≤ y)) = ks.map fun i : Nat => (i : Int) := by
  obtain ⟨es, hD, hpw, hkl⟩ := hown.entries (Maps.int_keyed Tryz.underlying3)
  obtain ⟨es', hD', hko⟩ := hown.keysOf
  obtain rfl : es = es' := by rw [hD] at hD'; simpa using hD'
  subst hD
  have hk : ∀ p ∈ es, ∃ x, p.1 = .int .i64 x := fun p hp' => by
    obtain ⟨v, hv⟩ := hko p hp'
    obtain ⟨x, _, hx, _⟩ := Maps.keyOf_i64 Tryz.underlying3 hv
    exact ⟨x, hx⟩
  have hnd : (ks.map fun i : Nat => (i : Int)).Nodup := by
    rw [List.Nodup, List.pairwise_map]
    exact hs.imp fun h e => by omega
  have h1 := perm_intKeys hpw hk (ss := ks.map fun i : Nat => (i : Int)) hnd fun x => by
    rw [show (Lit.int .i64 x) = il x from rfl, hh x, List.any_eq_true, List.mem_map]
    constructor
    · rintro ⟨i, hi, rfl⟩; exact ⟨i, hi, by simp⟩
    · rintro ⟨i, hi, e⟩; exact ⟨i, hi, by simpa using e⟩
  have h2 := mergeSort_of_perm_i (hp.trans h1.symm)
  refine h2.trans (List.mergeSort_of_pairwise ?_)
  rw [List.pairwise_map]
  exact hs.imp fun h => by simp; omega
set_option maxHeartbeats 2000000 in
/-- The streams that are there, rising. -/
theorem ids_any (w : World) (ow : Nat → Tg) (b : Nat) (M : Cv) (L : Lay) (h : CN w ow b M L) (hs : (M.strs.map (·.id)).Pairwise (· < ·)) (hn : M.strs.length ≤ 1000000) :
    Calls Tryz.prog 42 #[.pointer (some ⟨b, 0, none⟩)] w fun e w' => ∃ v, e = .returned v ∧ w'.ownsRow w.heap.size 3 1 v M.strs.length ((M.strs.map fun s => (s.id : Int)).map encZ) ∧ Below w.heap.size w w' := by
  have c15 : w.cell? ⟨b, 15, none⟩ = some (.map (some L.mb)) := h.blk.cell 15
  obtain ⟨D, hown, _, hsz, hh, _⟩ := h.p.map
  have hbl := hown.lt
  have HSD := Lib.hid (fun (ss : List Int) (hp : ss.Perm (intKeys D)) => sorted_ids (f := fun _ => .nilIface) hown hh hs hp)
  have hszl : Maps.size D = M.strs.length := by rw [hsz]; simp
  have hmx : Maps.size D ≤ maxLen := by rw [hszl]; simp only [maxLen]; omega
  have hbytes : Maps.size D * 8 ≤ 140737488355328 := by omega
  have HL := Lib.hid hszl
  clear h hs hh hsz hszl
  refine (callsIn_wide (n := 6)).1 ?_
  have hseq : SeqGives Fence.wide 2 Tryz.prog 118 #[.pointer (some ⟨w.heap.size, 0, none⟩)] encZ (fun ss => ss.Perm (intKeys D)) (Maps.size D) (w.alloc (.cells #[.map (some L.mb)] 74)) :=
    AnyZI.keys_gives (ρ := Tryz.keysA_ren) { Tryz.keysA with } Fence.wide _ trivial rfl (by omega) w.heap.size L.mb _ D _ (by simp) (by simp) (by
      obtain ⟨es, clock, hb, Ft, hs, hD⟩ := hown
      exact ⟨es, clock, (Below.heap_alloc _ _ L.mb hbl).trans hb, Ft, hs, hD⟩)
  have cK : ∀ mb W, CallsIn Fence.wide 5 Tryz.prog 74 #[.map mb] W fun e w' => e = .returned (.func (.func 118) #[] #[.pointer (some ⟨W.heap.size, 0, none⟩)]) ∧ w' = W.alloc (.cells #[.map mb] 74) := fun mb W => AnyZI.keys_in Tryz.keysA Fence.wide 5 trivial rfl mb W
  have cS := AnyZI.sorted_in Tryz.sortedA Fence.wide 5 trivial trivial trivial trivial rfl (by omega) (sorts_in _) (enters_of Tryz.func117 (by kernel_rfl) rfl) 118 #[.pointer (some ⟨w.heap.size, 0, none⟩)] trivial (enters_of Tryz.func118 (by kernel_rfl) rfl) _ _ hmx hbytes _ hseq
  change CallsIn _ _ Tryz.prog 73 _ _ _ at cS
  have hfK : Fence.wide.fn 74 := trivial
  have hfS : Fence.wide.fn 73 := trivial
  clear hown hmx hbytes
  refine callsIn_of_wp Tryz.func42 rfl trivial ?_ rfl
  simp only [Tryz.ntmps42, List.size_toArray, List.length_cons, List.length_nil, Nat.reduceAdd, Nat.reduceSub, Array.replicate_succ, Array.replicate_zero, List.push_toArray, List.append_toArray, List.nil_append, List.cons_append]
  gi_wp2_with (first
    | (gi_at_call 74; refine (cK _ _).mono ?_; rintro e w' ⟨rfl, rfl⟩)
    | (gi_at_call 73; refine cS.mono ?_; rintro e w' ⟨v, ss, rfl, hS, hrow, hnil, hb⟩))
  go_ret
  have e1 := HSD.out ss hS
  rw [e1] at hrow
  have e2 : ss.length = M.strs.length := by have := congrArg List.length e1; simpa using this
  rw [e2] at hrow
  refine ⟨v, rfl, ?_, ((Below.refl _ w).alloc (Nat.le_refl _) _).trans (hb.mono (by simp))⟩
  have h9 : w'.ownsRow w.heap.size 3 1 v M.strs.length (((M.strs.map (·.id)).map fun i : Nat => (i : Int)).map encZ) := ownsRow_base_a (base' := w.heap.size) hrow (by simp)
  have e3 : ((M.strs.map (·.id)).map fun i : Nat => (i : Int)) = M.strs.map fun s => (s.id : Int) := by rw [List.map_map]; rfl
  rw [e3] at h9
  exact h9
set_option maxHeartbeats 1000000 in
theorem streams_any (w : World) (ow : Nat → Tg) (b : Nat) (M : Cv) (L : Lay) (h : CN w ow b M L) (hs : (M.strs.map (·.id)).Pairwise (· < ·)) (hn : M.strs.length ≤ 1000000) :
    Calls Tryz.prog 21 #[.pointer (some ⟨b, 0, none⟩)] w fun e w' => ∃ A c, e = .returned (.slice A M.strs.length c) ∧ w'.ownsRow w.heap.size 3 1 (.slice A M.strs.length c) M.strs.length ((M.strs.map fun s => (s.id : Int)).map encZ) ∧ Below w.heap.size w w' := by
  have HI := Lib.hid (ids_any w ow b M L h hs hn)
  clear h hs hn
  go_enter Tryz.func21, Tryz.ntmps21
  go_wp2_with fail
  with_reducible refine HI.out.mono ?_
  rintro e w' ⟨v, rfl, ho, hb⟩
  have hv : ∃ A c, v = .slice A M.strs.length c := by
    rcases ho.2 with ⟨rfl, h0⟩ | ⟨g, cap, cur, rfl, _⟩
    · exact ⟨none, 0, by rw [h0]⟩
    · exact ⟨_, _, rfl⟩
  obtain ⟨A, c, rfl⟩ := hv
  have HO := Lib.hid ho
  have HB := Lib.hid hb
  clear ho hb
  go_wp2
  go_ret
  exact ⟨A, c, rfl, HO.out, HB.out⟩
/-- What is waiting, or held, of a stream. -/
def strAt (M : Cv) (id : Int) : Option Sv := M.strs.find? fun s => decide ((s.id : Int) = id)
theorem at_none {M : Cv} {L : Lay} {id : Int} (h : strAt M id = none) : atI (M.strs.map (·.id)) (sptr L) (.pointer none) id = .pointer none := by
  unfold atI
  rw [List.find?_map]
  unfold strAt at h
  rw [show ((fun i : Nat => decide ((i : Int) = id)) ∘ fun x : Sv => x.id) = fun s : Sv => decide ((s.id : Int) = id) from rfl, h]
  rfl
theorem at_some {M : Cv} {L : Lay} {id : Int} {s : Sv} (h : strAt M id = some s) : atI (M.strs.map (·.id)) (sptr L) (.pointer none) id = .pointer (some ⟨(L.s s.id).sb, 0, none⟩) ∧ s ∈ M.strs ∧ (s.id : Int) = id := by
  unfold strAt at h
  refine ⟨?_, List.mem_of_find?_eq_some h, by simpa using List.find?_some h⟩
  unfold atI
  rw [List.find?_map]
  rw [show ((fun i : Nat => decide ((i : Int) = id)) ∘ fun x : Sv => x.id) = fun s : Sv => decide ((s.id : Int) = id) from rfl, h]
  rfl
/-- A stream is looked up. -/
theorem look_str {w : World} {ow : Nat → Tg} {b : Nat} {M : Cv} {L : Lay} (h : CN w ow b M L) (id : Int) (hw : (Lit.int .i64 id).wf = true) : (Instr.lookup 74 (.map (some L.mb)) (.int .i64 id) false).run Tryz.prog w = .ok (atI (M.strs.map (·.id)) (sptr L) (.pointer none) id) w :=
  h.p.map.look Tryz.underlying74 Tryz.underlying3 (zero_strm w) hw
set_option maxHeartbeats 1000000 in
theorem waiting_any (w : World) (ow : Nat → Tg) (b : Nat) (M : Cv) (L : Lay) (id : Int) (h : CN w ow b M L) (hw : (Lit.int .i64 id).wf = true) :
    Calls Tryz.prog 33 #[.pointer (some ⟨b, 0, none⟩), .int .i64 id] w fun e w' => e = .returned (.int .i64 (match strAt M id with | some s => s.waits.length | none => 0 : Nat)) ∧ w' = w := by
  have c15 : w.cell? ⟨b, 15, none⟩ = some (.map (some L.mb)) := h.blk.cell 15
  have hlk := look_str h id hw
  cases hf : strAt M id with
  | none =>
    rw [at_none hf] at hlk
    clear h hf
    go_enter Tryz.func33, Tryz.ntmps33
    go_wp2
    go_ret
    exact ⟨rfl, rfl⟩
  | some s =>
    obtain ⟨h1, h2, h3⟩ := at_some (L := L) hf
    rw [h1] at hlk
    have d6 : w.cell? ⟨(L.s s.id).sb, 6, none⟩ = some (L.s s.id).waits := (h.p.strs s h2).blk.cell 6
    obtain ⟨A, c, e, _, _⟩ := (h.p.strs s h2).waits.form
    rw [e] at d6
    clear h hf h1 h2 h3 e
    show Calls _ _ _ _ fun e w' => e = .returned (.int .i64 (s.waits.length : Nat)) ∧ w' = w
    generalize (L.s s.id).sb = sb at *
    generalize s.waits.length = hd at *
    go_enter Tryz.func33, Tryz.ntmps33
    go_wp2
    go_ret
    exact ⟨rfl, rfl⟩
end Go.Proofs.YtkpppjhbmnfmkaaGreatDoor
end

section
namespace Go.Proofs.YtkpppjhbmnfmkaaGreatDoor
open Go.RowKit Go.Own Go.Own.Im Go.Own.Cx Go.Own.Fr
/-- Nothing of a stream's may be sent. -/
def Still (s : Sv) : Prop := s.waits = [] ∧ s.own ≠ 2
set_option maxHeartbeats 1000000 in
set_option maxRecDepth 100000 in
theorem sends_still (w : World) (ow : Nat → Tg) (co : Nat) (l : SLay) (s : Sv) (cv : Value) (h : SN w ow co l s) (hs : Still s) :
    Calls Tryz.prog 43 #[cv, .pointer (some ⟨l.sb, 0, none⟩)] w fun e w' => e = .returned (.bool false) ∧ w' = w := by
  obtain ⟨A, c, e, _, _⟩ := h.waits.form
  rw [hs.1] at e
  have d6 : w.cell? ⟨l.sb, 6, none⟩ = some l.waits := h.blk.cell 6
  rw [e] at d6
  have d1 : w.cell? ⟨l.sb, 1, none⟩ = some (.int .i64 (s.own : Nat)) := h.blk.cell 1
  have h2 : ¬ (s.own : Int) = 2 := by have := hs.2; omega
  have h2' : ((s.own : Int) == 2) = false := by simpa using h2
  have h2'' : ((s.own : Int) != 2) = true := by simpa using h2
  simp only [List.length_nil] at d6
  clear h hs e
  generalize s.own = own at *
  generalize l.sb = sb at *
  go_enter Tryz.func43, Tryz.ntmps43
  go_wp2
  go_ret
  exact ⟨rfl, rfl⟩
theorem strAt_mem : ∀ {l : List Sv}, (l.map (·.id)).Pairwise (· < ·) → ∀ {s : Sv}, s ∈ l → l.find? (fun x => decide ((x.id : Int) = (s.id : Int))) = some s
  | [], _, _, h => by cases h
  | x :: l, hp, s, h => by
    rw [List.map_cons, List.pairwise_cons] at hp
    rcases List.mem_cons.1 h with rfl | h
    · simp
    · have h1 := hp.1 s.id (List.mem_map.2 ⟨s, h, rfl⟩)
      have h2 : ¬ ((x.id : Int) = (s.id : Int)) := by omega
      rw [List.find?_cons_of_neg (by simpa using h2)]
      exact strAt_mem hp.2 h
/-- What is put out is given away. -/
theorem CN.gives {w : World} {ow : Nat → Tg} {b : Nat} {M : Cv} {L : Lay} (h : CN w ow b M L) {A : Option Addr} {c : Nat} (hL : L.out = .slice A M.out.length c) :
    ∃ ow' L', CN (w.setCell ⟨b, 6, none⟩ (.slice none 0 0)) ow' b { M with out := [] } L' ∧ Fr w ow (w.setCell ⟨b, 6, none⟩ (.slice none 0 0)) ow' ∧ (0 < M.out.length → ∀ ad, A = some ad → ow' ad.block = .no) ∧ Rd (w.setCell ⟨b, 6, none⟩ (.slice none 0 0)) w.heap.size A M.out.length M.out := by
  have ho := h.p.out
  rw [hL] at ho
  have hr := ho.rd
  obtain ⟨A', c', e, h1, h2, h3⟩ := ho
  injection e with e1 e2 e3
  subst e1 e3
  have hsz : (w.setCell ⟨b, 6, none⟩ (.slice none 0 0)).heap.size = w.heap.size := by simp [World.setCell]
  have key : ∀ ow', Kp (fun x => x = .out) w ow w ow' → (∀ g, w.heap.size ≤ g → ow' g = .no) → (∀ g, g < w.heap.size → ow g = .no → ow' g = .no) →
      ∃ L', CN (w.setCell ⟨b, 6, none⟩ (.slice none 0 0)) ow' b { M with out := [] } L' ∧ Fr w ow (w.setCell ⟨b, 6, none⟩ (.slice none 0 0)) ow' := by
    intro ow' k hno hk
    have hbk := h.blkK k (by decide)
    have hcp : CP w ow' M.fed [] M.evs M.inw M.outw M.strs M.list { L with out := .slice none 0 0 } :=
      ⟨h.p.fedK k (by decide), Oz.nil _ _, h.p.evK k (by decide) (by decide), (h.p.inwK k (by decide)).1, (h.p.inwK k (by decide)).2, (h.p.outwK k (by decide)).1, (h.p.outwK k (by decide)).2, (h.p.mapK k (by decide)).1, (h.p.mapK k (by decide)).2,
        fun s hs => h.p.strK k s hs (by intro j; simp), h.p.lstK k (by decide) (by decide), h.p.encK k (by decide), h.p.decK k (by decide)⟩
    refine ⟨{ L with out := .slice none 0 0 }, ⟨hbk.1.put 6 _, hbk.2, hcp.keep (by omega) fun g _ hn _ => ⟨Below.heap_setCell w _ _ g (fun e => hn (by rw [e]; exact hbk.2)), rfl⟩, fun g hg => hno g (by omega)⟩, ?_⟩
    refine ⟨rfl, rfl, rfl, by omega, fun g hg hn => Below.heap_setCell w _ _ g (fun e => ?_), hk⟩
    rw [e, h.tb] at hn
    cases hn
  have hrd : Rd (w.setCell ⟨b, 6, none⟩ (.slice none 0 0)) w.heap.size A M.out.length M.out := by
    refine ⟨hr.1, fun hn => ?_⟩
    obtain ⟨ad, ea, hb, hc⟩ := hr.2 hn
    obtain ⟨g, off, eg, hog, _⟩ := h3 (by omega)
    refine ⟨ad, ea, hb, fun j hj => (World.cell?_of_block (a := ad.add j) ?_).trans (hc j hj)⟩
    rw [add_block]
    refine Below.heap_setCell w _ _ _ (fun e => ?_)
    rw [ea] at eg
    injection eg with eg
    rw [eg] at e
    simp only at e
    rw [e, h.tb] at hog
    cases hog
  rcases Nat.eq_zero_or_pos M.out.length with h0 | h0
  · obtain ⟨L', r1, r2⟩ := key ow ⟨Nat.le_refl _, fun _ _ _ _ => ⟨rfl, rfl⟩⟩ h.new (fun _ _ h => h)
    exact ⟨ow, L', r1, r2, fun hn => by omega, hrd⟩
  · obtain ⟨g, off, eg, hog, hlt, _⟩ := h3 (by omega)
    obtain ⟨L', r1, r2⟩ := key (upd ow g .no) ⟨Nat.le_refl _, fun j _ hj _ => ⟨rfl, upd_other _ _ (fun e => hj (by rw [e]; exact hog))⟩⟩ (fun j hj => by rw [upd_other _ _ (by omega)]; exact h.new j hj) (fun j _ hj => by
      by_cases e : j = g
      · rw [e]; exact upd_same _ _ _
      · rw [upd_other _ _ e]; exact hj)
    exact ⟨_, L', r1, r2, fun _ ad ea => by rw [eg] at ea; injection ea with ea; subst ea; exact upd_same _ _ _, hrd⟩
/-- What Output leaves. -/
def OutPost (w : World) (ow : Nat → Tg) (b : Nat) (M : Cv) (e : Ending) (w' : World) : Prop :=
  ∃ A c ow' L', e = .returned (.slice A M.out.length c) ∧ M.out.length ≤ c ∧ Rd w' w'.heap.size A M.out.length M.out ∧ (0 < M.out.length → ∀ ad, A = some ad → ow' ad.block = .no) ∧ CN w' ow' b { M with out := [] } L' ∧ Fr w ow w' ow'
set_option maxHeartbeats 2000000 in
set_option maxRecDepth 100000 in
theorem output_still (w : World) (ow : Nat → Tg) (b : Nat) (M : Cv) (L : Lay) (h : CN w ow b M L) (hs : (M.strs.map (·.id)).Pairwise (· < ·)) (hn : M.strs.length ≤ 1000000) (hid : ∀ s ∈ M.strs, s.id ≤ 2147483647) (hst : M.dead = true ∨ ∀ s ∈ M.strs, Still s) :
    Calls Tryz.prog 13 #[.pointer (some ⟨b, 0, none⟩)] w (OutPost w ow b M) := by
  have c19 : w.cell? ⟨b, 19, none⟩ = some (.bool M.dead) := h.blk.cell 19
  have HC := Lib.hid h
  have HI := Lib.hid (fun W (hb : Below w.heap.size w W) => ids_any W ow b M L (h.below hb) hs hn)
  have HId := Lib.hid hid
  have HSrt := Lib.hid hs
  have HFin := Lib.hid (fun (W : World) (hb : Below w.heap.size w W) (A : Option Addr) (c : Nat) (hL : L.out = .slice A M.out.length c) => (show OutPost w ow b M (.returned (.slice A M.out.length c)) (W.setCell ⟨b, 6, none⟩ (.slice none 0 0)) from by
    obtain ⟨ow', L', r1, r2, r3, r4⟩ := (h.below hb).gives hL
    obtain ⟨A2, c2, e, h1, _⟩ := h.p.out.form
    rw [hL] at e
    injection e with _ _ e
    subst e
    exact ⟨A, c, ow', L', rfl, h1, r4.more (by simp [World.setCell]), r3, r1, (Fr.below hb ow).trans r2⟩))
  obtain ⟨A, c, hL, _, _⟩ := h.p.out.form
  have HL := Lib.hid hL
  clear h hs hid hL
  by_cases hd : M.dead = true
  · rw [hd] at c19
    have c6 : w.cell? ⟨b, 6, none⟩ = some L.out := HC.out.blk.cell 6
    rw [HL.out] at c6
    have f6 := HC.out.blk.frozen 6
    clear hst hd
    go_enter Tryz.func13, Tryz.ntmps13
    go_wp2
    go_loop [3] (fun t => t = .bool false) (fun _ => 0)
    case atStart => rfl
    case round =>
      obtain rfl := hrel
      go_wp2
      go_ret
      exact HFin.out w (Below.refl _ _) A c HL.out
  · have hd' : M.dead = false := by simpa using hd
    rw [hd'] at c19
    have HSt := Lib.hid (hst.resolve_left hd)
    have hmax : maxLen = 9223372036854775807 := rfl
    clear hst hd hd'
    go_enter Tryz.func13, Tryz.ntmps13
    go_wp2
    go_loopw [3] (fun t wr => Hid ((t = .bool true ∧ wr = w) ∨ (t = .bool false ∧ Below w.heap.size w wr))) (fun t _ => match t with | .bool true => 1 | _ => 0)
    case atStart => exact Lib.hid (.inl ⟨rfl, rfl⟩)
    case round =>
      rcases hrel.out with ⟨rfl, rfl⟩ | ⟨rfl, hb⟩
      · clear hrel
        go_wp2_with (first
          | (go_at_call 42
             with_reducible refine Calls.mono (HI.out _ (Below.refl _ _)) ?_
             rintro e w1 ⟨v, rfl, hrow, hb1⟩
             have HRow := Lib.hid hrow
             have HB1 := Lib.hid hb1
             have hv : ∃ A c, v = .slice A M.strs.length c ∧ M.strs.length ≤ c := by
               rcases hrow.2 with ⟨rfl, h0⟩ | ⟨g, cap, cur, rfl, _, _, h1, _⟩
               · exact ⟨none, 0, by rw [h0], by omega⟩
               · exact ⟨_, _, rfl, h1⟩
             obtain ⟨A1, c1, rfl, _⟩ := hv
             clear hrow hb1)
          | fail)
        have HC1 := Lib.hid (HC.out.below HB1.out)
        go_loop [3, 16] (fun t3 t16 => t3 = .bool false ∧ ∃ k : Nat, k ≤ M.strs.length ∧ t16 = .int .i64 (k : Nat)) (fun _ t16 => M.strs.length - (intOf t16).toNat)
        case atStart => exact ⟨rfl, 0, Nat.zero_le _, rfl⟩
        case round =>
          obtain ⟨rfl, k, hk, rfl⟩ := hrel
          by_cases hlt : k < M.strs.length
          · obtain ⟨s, hs⟩ : ∃ s, M.strs[k]? = some s := ⟨_, List.getElem?_eq_getElem hlt⟩
            have hmem := List.mem_of_getElem? hs
            have hsid := HId.out s hmem
            have hcell : ∃ g, A1 = some ⟨g, 0, none⟩ ∧ w1.cell? ⟨g, k, none⟩ = some (.int .i64 (s.id : Nat)) := by
              have hr := HRow.out
              rcases hr.2 with ⟨e, h0⟩ | ⟨g, cap, cur, e, _⟩
              · omega
              · injection e with e1 e2 e3
                subst e1
                refine ⟨g, rfl, ?_⟩
                have := World.ownsRow.cells hr (g := g) rfl k (.int .i64 (s.id : Nat)) (by simp [hs, encZ])
                rw [Addr.add_lit, Nat.zero_add] at this
                exact this
            obtain ⟨g, rfl, hcell⟩ := hcell
            have hwf : (Lit.int .i64 (s.id : Int)).wf = true := by simp [Lit.wf, IntKind.min, IntKind.max, IntKind.bits, IntKind.signed]; omega
            have hlk := look_str HC1.out (s.id : Int) hwf
            rw [(at_some (L := L) (strAt_mem HSrt.out hmem)).1] at hlk
            have c15 : w1.cell? ⟨b, 15, none⟩ = some (.map (some L.mb)) := HC1.out.blk.cell 15
            have HSe := Lib.hid (fun cv => sends_still w1 ow L.ob (L.s s.id) s cv (HC1.out.p.strs s hmem) (HSt.out s hmem))
            have HK := Lib.hid hlt
            clear hs hmem hsid hwf
            go_wp2_with (first
              | (go_at_call 43
                 with_reducible refine Calls.mono (HSe.out _) ?_
                 rintro e w' ⟨rfl, hw⟩
                 subst w')
              | fail)
            exact ⟨⟨rfl, k + 1, HK.out, by go_num⟩, by have := HK.out; simp [intOf]; omega⟩
          · have hge : ¬ ((k : Int) < (M.strs.length : Int)) := by omega
            go_wp2
            exact ⟨Lib.hid (.inr ⟨rfl, HB1.out⟩), by simp⟩
      · have HB := Lib.hid hb
        have c6 : wr.cell? ⟨b, 6, none⟩ = some L.out := (HC.out.below hb).blk.cell 6
        rw [HL.out] at c6
        have f6 := (HC.out.below hb).blk.frozen 6
        clear hrel hb
        go_wp2
        go_ret
        exact HFin.out wr HB.out A c HL.out
end Go.Proofs.YtkpppjhbmnfmkaaGreatDoor
end
