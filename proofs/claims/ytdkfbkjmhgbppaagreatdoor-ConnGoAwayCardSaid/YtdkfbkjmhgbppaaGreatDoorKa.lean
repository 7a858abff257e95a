/-
  The states of a client that is told GOAWAY (ConnGoAway). No program text is walked here.
  Contract: parleylaw8.same of events without lists and bytes that read alike.
-/
import Derived.Test.YtdkfbkjmhgbppaaGreatDoorJz
import Derived.Test.YtdkfbkjmhgbppaaGreatDoorJt
import Derived.Test.YtdkfbkjmhgbppaaGreatDoorJh
import Derived.BigQuiet
set_option linter.unusedSimpArgs false
set_option linter.unusedVariables false
section
namespace Go.Proofs.YtdkfbkjmhgbppaaGreatDoor
open Go.RowKit Go.Own Go.Own.Im Go.Own.Cx Go.Own.Fr Go.Own.Hd
def rsE (s : Sv) : EvV := { kind := 4, stream := s.id, code := 7 }
theorem goM_evs (last : Nat) : ∀ (l : List Sv) (M : Cv), (goM M last l).evs = M.evs ++ (l.filter fun s => last < s.id).map rsE
  | [], M => by simp [goM]
  | s :: r, M => by
    unfold goM
    rw [goM_evs last r]
    by_cases h : last < s.id
    · rw [if_pos h]
      simp [h, dropM, rsE]
    · rw [if_neg h]
      simp [h]
theorem goM_same (last : Nat) : ∀ (l : List Sv) (M : Cv), ∃ sl ev, goM M last l = { M with strs := sl, evs := ev }
  | [], M => ⟨M.strs, M.evs, rfl⟩
  | s :: r, M => by
    unfold goM
    by_cases h : last < s.id
    · rw [if_pos h]
      obtain ⟨sl, ev, e⟩ := goM_same last r (dropM { M with evs := M.evs ++ [{ kind := 4, stream := s.id, code := 7 }] } s.id)
      exact ⟨sl, ev, e⟩
    · rw [if_neg h]
      exact goM_same last r M
theorem goM_strs (last : Nat) : ∀ (l : List Sv) (M : Cv), (goM M last l).strs = M.strs.filter fun s => decide (∀ x ∈ l, last < x.id → s.id ≠ x.id)
  | [], M => by
    unfold goM
    exact (List.filter_eq_self.2 (by simp)).symm
  | x :: r, M => by
    unfold goM
    by_cases h : last < x.id
    · rw [if_pos h, goM_strs last r]
      show (M.strs.filter _).filter _ = _
      rw [List.filter_filter]
      congr 1
      funext s
      by_cases e : s.id = x.id
      · simp [e, h]
      · simp [e, h]
    · rw [if_neg h, goM_strs last r]
      congr 1
      funext s
      simp [h]
theorem clM_left (n last : Nat) : ((awayM (clM n) last 0).strs).length = ((List.range n).filter fun k => !(decide (last < 2 * k + 1))).length := by
  unfold awayM
  rw [goM_strs]
  show ((clM n).strs.filter _).length = _
  rw [clM_strs, List.filter_map, List.length_map]
  congr 1
  refine List.filter_congr fun k hk => ?_
  have hk := List.mem_range.1 hk
  rw [← decide_not]
  simp only [Function.comp, decide_eq_decide]
  constructor
  · intro h h2
    exact h (cS k) (List.mem_map.2 ⟨k, List.mem_range.2 hk, rfl⟩) h2 rfl
  · intro h x hx h2
    obtain ⟨j, hj, rfl⟩ := List.mem_map.1 hx
    show 2 * k + 1 ≠ 2 * j + 1
    intro e
    have : k = j := by omega
    subst this
    exact h h2
/-- What is wanted behind i of the streams. -/
def wantE (last code i : Nat) : List EvV := { kind := 6, last := last, code := code } :: ((List.range i).filter fun k => decide (last < 2 * k + 1)).map fun k => { kind := 4, stream := 2 * k + 1, code := 7 }
def leftN (last i : Nat) : Nat := ((List.range i).filter fun k => !(decide (last < 2 * k + 1))).length
theorem wantE_yes {last code i : Nat} (h : last < 2 * i + 1) : wantE last code (i + 1) = wantE last code i ++ [{ kind := 4, stream := 2 * i + 1, code := 7 }] ∧ leftN last (i + 1) = leftN last i := by
  unfold wantE leftN
  rw [List.range_succ, List.filter_append, List.filter_append]
  simp [h]
theorem wantE_no {last code i : Nat} (h : ¬ last < 2 * i + 1) : wantE last code (i + 1) = wantE last code i ∧ leftN last (i + 1) = leftN last i + 1 := by
  unfold wantE leftN
  rw [List.range_succ, List.filter_append, List.filter_append]
  simp [h]
theorem wantE_len (last code i : Nat) : (wantE last code i).length ≤ i + 1 := by
  unfold wantE
  rw [List.length_cons, List.length_map]
  have := List.length_filter_le (fun k => decide (last < 2 * k + 1)) (List.range i)
  simp at this ⊢
  omega
theorem leftN_le (last i : Nat) : leftN last i ≤ i := by
  unfold leftN
  have := List.length_filter_le (fun k => !(decide (last < 2 * k + 1))) (List.range i)
  simpa using this
theorem away_evs (n last code : Nat) : (awayM (clM n) last code).evs = wantE last code n := by
  unfold awayM
  rw [goM_evs]
  show (clM n).evs ++ [_] ++ _ = _
  have e : (clM n).evs = [] := by rw [(clM_eq n).1]; rfl
  rw [e, clM_strs, List.filter_map, List.map_map]
  rfl
theorem away_left (n last code : Nat) : (awayM (clM n) last code).strs.length = leftN last n := by
  have h := clM_left n last
  unfold leftN
  rw [← h]
  unfold awayM
  rw [goM_strs, goM_strs]
theorem away_facts (n last code : Nat) : (awayM (clM n) last code).dead = false ∧ (awayM (clM n) last code).side = 1 ∧ (awayM (clM n) last code).gone = true ∧ (awayM (clM n) last code).code = 0 ∧ ((awayM (clM n) last code).strs.map (·.id)).Pairwise (· < ·) := by
  have h := (clM_eq n).1
  obtain ⟨sl, ev, e⟩ := goM_same last (clM n).strs { clM n with evs := (clM n).evs ++ [{ kind := 6, last := last, code := code }], gone := true }
  have e : awayM (clM n) last code = _ := e
  refine ⟨by rw [e, h]; rfl, by rw [e, h]; rfl, by rw [e], by rw [e, h]; rfl, ?_⟩
  unfold awayM
  rw [goM_strs]
  exact (clM_sorted n).sublist ((List.filter_sublist).map _)
theorem wantE_plain (last code i : Nat) : ∀ e ∈ wantE last code i, e.l = [] ∧ e.by_ = [] := by
  intro e he
  rcases List.mem_cons.1 he with rfl | he
  · exact ⟨rfl, rfl⟩
  · obtain ⟨k, _, rfl⟩ := List.mem_map.1 he
    exact ⟨rfl, rfl⟩
/-- The frame is fed. -/
theorem runs_away (n last code : Nat) (hn : n ≤ 100) (hla : last < 2147483648) (hco : code < 4294967296) :
    Runs 1 { clM n with evs := [], fed := (clM n).fed ++ frameB 7 0 0 (be last 4 ++ be code 4) } (fun M' => M' = awayM (clM n) last code) := by
  have h := (clM_eq n).1
  have hf : (clM n).fed = [] := by rw [h]; rfl
  have hev : (clM n).evs = [] := by rw [h]; rfl
  have hM : ({ ({ clM n with evs := [], fed := (clM n).fed ++ frameB 7 0 0 (be last 4 ++ be code 4) } : Cv) with fed := [] } : Cv) = clM n := by
    rw [h]
    rfl
  have hd : (clM n).dead = false := by rw [h]; rfl
  have hp : (clM n).preface = 24 := by rw [h]; rfl
  have hg : (clM n).greeted = true := by rw [h]; rfl
  have hl : (clM n).list = none := by rw [h]; rfl
  have hs : (clM n).side = 1 := by rw [h]; rfl
  refine .more hd (step_takes _ (fun M' => M' = awayM (clM n) last code) 7 0 0 (be last 4 ++ be code 4) [] hp (by rw [hf, List.nil_append, List.append_nil]) (by decide) (by decide) (by decide) (by simp [be_len]) (by
    rw [hM]
    exact takes_away (clM n) last code hg hl hs hla hco (clM_sorted n) (by rw [clM_len]; omega) (fun s hs => by obtain ⟨k, hk, rfl⟩ := clM_mem n s hs; show 2 * k + 1 ≤ _; omega) (fun s hs => by obtain ⟨k, hk, rfl⟩ := clM_mem n s hs; rfl) (by rw [hev]; decide))) fun M1 h1 => ?_
  subst h1
  obtain ⟨sl, ev, e⟩ := goM_same last (clM n).strs { clM n with evs := (clM n).evs ++ [{ kind := 6, last := last, code := code }], gone := true }
  have e : awayM (clM n) last code = _ := e
  refine .stop (by rw [e]; exact hd) ((step_few _ (by rw [e]; exact hp) (by rw [e]; show (clM n).fed.length < 9; rw [hf]; decide)).mono fun M' h' => h')
end Go.Proofs.YtdkfbkjmhgbppaaGreatDoor
end

section
namespace Go.Proofs.YtdkfbkjmhgbppaaGreatDoor
open Go.RowKit Go.Own Go.Own.Im Go.Own.Cx Go.Own.Fr Go.Own.Hd
set_option maxHeartbeats 1000000 in
theorem sameHeads0 (w : World) (A A2 : Option Addr) (c c2 : Nat) : Calls Tryz.prog 54 #[.slice A 0 c, .slice A2 0 c2] w fun e w' => e = .returned (.bool true) ∧ w' = w := by
  go_enter Tryz.func54, Tryz.ntmps54
  go_upto_region 4 with fail
  go_loopw [5] (fun iv wr => Hid (iv = .int .i64 0 ∧ wr = w)) (fun _ _ => 0)
  case atStart => exact ⟨rfl, rfl⟩
  case round =>
    obtain ⟨rfl, rfl⟩ := hrel
    go_wp2
    go_ret
    exact ⟨rfl, rfl⟩
/-- The cells of an event. -/
theorem ev_all {w : World} {B n j : Nat} {ad : Addr} {l : List EvV} {x : EvV} (h : Cm.RS evC 7 w B (some ad) n l) (hx : l[j]? = some x) :
    w.cell? (ad.add (j * 7)) = some (.int .i64 (x.kind : Nat)) ∧ w.cell? ⟨(ad.add (j * 7)).block, (ad.add (j * 7)).off + 1, none⟩ = some (.int .i64 (x.stream : Nat)) ∧ w.cell? ⟨(ad.add (j * 7)).block, (ad.add (j * 7)).off + 2, none⟩ = some (.int .i64 (x.code : Nat)) ∧
    w.cell? ⟨(ad.add (j * 7)).block, (ad.add (j * 7)).off + 3, none⟩ = some (.int .i64 (x.last : Nat)) ∧ w.cell? ⟨(ad.add (j * 7)).block, (ad.add (j * 7)).off + 4, none⟩ = some (.bool x.fin) ∧
    w.cell? ⟨(ad.add (j * 7)).block, (ad.add (j * 7)).off + 5, none⟩ = some (.slice x.la x.l.length x.lc) ∧ w.cell? ⟨(ad.add (j * 7)).block, (ad.add (j * 7)).off + 6, none⟩ = some (.slice x.ba x.by_.length x.bc) := by
  have hj : j < n := by rw [← h.1]; exact (List.getElem?_eq_some_iff.1 hx).1
  obtain ⟨ad', x', e, hx', h0, hr⟩ := h.at2 hj
  injection e with e
  subst e
  rw [hx] at hx'
  injection hx' with hx'
  subst hx'
  exact ⟨h0, hr 1 _ (by decide) rfl, hr 2 _ (by decide) rfl, hr 3 _ (by decide) rfl, hr 4 _ (by decide) rfl, hr 5 _ (by decide) rfl, hr 6 _ (by decide) rfl⟩
theorem rd_nilA (w : World) (B : Nat) (A : Option Addr) : Rd w B A 0 [] := ⟨rfl, fun h => absurd h (Nat.lt_irrefl _)⟩
/-- Between two rounds. -/
def SmR (w : World) (n : Nat) (iv : Value) (wr : World) : Prop := ∃ k : Nat, iv = .int .i64 (k : Nat) ∧ k ≤ n ∧ (∀ g : Nat, wr.heap[g]? = w.heap[g]?) ∧ Below w.heap.size w wr
set_option maxHeartbeats 8000000 in
set_option maxRecDepth 100000 in
theorem sameEv_any (w : World) (A A2 : Option Addr) (n c c2 B B2 : Nat) (l : List EvV) (h1 : Cm.RS evC 7 w B A n l) (h2 : Cm.RS evC 7 w B2 A2 n l) (hp : ∀ e ∈ l, e.l = [] ∧ e.by_ = []) (hn : n ≤ 100000) :
    Calls Tryz.prog 25 #[.slice A n c, .slice A2 n c2] w fun e w' => e = .returned (.bool true) ∧ Below w.heap.size w w' := by
  have H1 := Lib.hid h1
  have H2 := Lib.hid h2
  have HP := Lib.hid hp
  have HN := Lib.hid hn
  clear h1 h2 hp hn
  go_enter Tryz.func25, Tryz.ntmps25
  go_upto_region 4 with fail
  go_loopw [5] (fun iv wr => Hid (SmR w n iv wr)) (fun iv _ => n - (intOf iv).toNat)
  case atStart => exact ⟨0, rfl, Nat.zero_le _, fun _ => rfl, Below.refl _ _⟩
  case round =>
    obtain ⟨k, rfl, hkn, hsm, hb⟩ := hrel
    have HK := Lib.hid hkn
    have HB := Lib.hid hb
    have HSm := Lib.hid hsm
    have hsz := hb.size
    have H1r := Lib.hid (H1.out.keep hsz fun ad _ _ _ => hsm ad.block)
    have H2r := Lib.hid (H2.out.keep hsz fun ad _ _ _ => hsm ad.block)
    clear hsm hb hsz
    by_cases hlt : k < n
    · have hlt2 : (k : Int) < (n : Int) := by omega
      have i0 : (0 : Int) ≤ (k : Int) := by omega
      obtain ⟨ad, x, rfl, hx, _⟩ := H1r.out.at2 hlt
      obtain ⟨ad2, x2, rfl, hx2, _⟩ := H2r.out.at2 hlt
      obtain rfl : x = x2 := Option.some.inj (hx.symm.trans hx2)
      obtain ⟨a0, a1, a2, a3, a4, a5, a6⟩ := ev_all H1r.out hx
      obtain ⟨b0, b1, b2, b3, b4, b5, b6⟩ := ev_all H2r.out hx
      obtain ⟨hl0, hb0⟩ := HP.out x (List.mem_of_getElem? hx)
      obtain ⟨kd, st, co, la, fi, p1, q1, p2, q2, xl, xb⟩ := x
      simp only at hl0 hb0 a0 a1 a2 a3 a4 a5 a6 b0 b1 b2 b3 b4 b5 b6
      subst hl0 hb0
      simp only [List.length_nil] at a5 a6 b5 b6
      have hk1 : wrap64 ((k : Int) + 1) = ((k + 1 : Nat) : Int) := by have := HN.out; unfold wrap64; omega
      have HK1 := Lib.hid hk1
      have HSh := Lib.hid (fun W => sameHeads0 W p1 p1 q1 q1)
      have HSb := Lib.hid (fun W : World => (show Calls Tryz.prog 17 #[.slice p2 0 q2, .slice p2 0 q2] W fun e w' => e = .returned (.bool true) ∧ w' = W from
        (sameBytes_any p2 p2 0 0 q2 q2 [] [] W 0 0 (rd_nilA W 0 p2) (rd_nilA W 0 p2)).mono fun e w' h => ⟨h.1, h.2.symm⟩))
      clear hkn hx hx2 hk1
      generalize (kd : Int) = kd at *
      generalize (st : Int) = st at *
      generalize (co : Int) = co at *
      generalize (la : Int) = la at *
      go_wp2_with fail
      go_quiet ((go_at_call 54; exact Calls.quiet_of_same (HSh.out _)))
      have e9 : ∀ ad, wr.cell? ad = (wr.drewN nq).cell? ad := fun _ => rfl
      rw [e9] at a0 a1 a2 a3 a4 a5 a6 b0 b1 b2 b3 b4 b5 b6
      have HB2 := Lib.hid (below_drewN HB.out nq)
      have HSm2 := Lib.hid (show ∀ g : Nat, (wr.drewN nq).heap[g]? = w.heap[g]? from HSm.out)
      clear e9 HB HSm H1r H2r
      generalize wr.drewN nq = W1 at *
      go_wp2_with fail
      go_quiet ((go_at_call 17; exact Calls.quiet_of_same (HSb.out _)))
      have e9 : ∀ ad, W1.cell? ad = (W1.drewN nq).cell? ad := fun _ => rfl
      rw [e9] at a0 a1 a2 a3 a4 b0 b1 b2 b3 b4
      clear a5 a6 b5 b6
      have HB3 := Lib.hid (below_drewN HB2.out nq)
      have HSm3 := Lib.hid (show ∀ g : Nat, (W1.drewN nq).heap[g]? = w.heap[g]? from HSm2.out)
      clear e9 HB2 HSm2
      generalize W1.drewN nq = W2 at *
      go_wp2_with fail
      go_quiet (fail)
      go_wp2_with fail
      rw [HK1.out]
      exact ⟨⟨k + 1, rfl, hlt, fun g => HSm3.out g, below_drewN HB3.out _⟩, by simp [intOf]; omega⟩
    · obtain rfl : k = n := by have := HK.out; omega
      have hge : ¬ ((k : Int) < (k : Int)) := by omega
      go_wp2
      go_ret
      exact ⟨rfl, HB.out⟩
end Go.Proofs.YtdkfbkjmhgbppaaGreatDoor
end
