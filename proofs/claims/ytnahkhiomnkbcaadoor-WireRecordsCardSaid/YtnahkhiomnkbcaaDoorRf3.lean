/-
  Contracts of the document's answer: parleyref1.group and Next; parleylaw1.is.
-/
import Derived.Test.YtnahkhiomnkbcaaDoorRf2
namespace Go.Proofs.YtnahkhiomnkbcaaDoor
open Go.RowKit Go.Own Go.Own.Wire

theorem nextD_le {d : Nat} {l : List UInt8} {r : Rec} {n : Nat} (h : nextD d l = .ok (r, n)) : 1 ≤ n ∧ n ≤ l.length := by
  unfold nextD at h
  rcases ht : tagOf l with e | ⟨f, k, m⟩ <;> rw [ht] at h
  · cases h
  · simp only at h
    have hl := tagOf_le ht
    split at h
    · cases h
    · rcases hw : way d k f (l.drop m) with e | ⟨u, b, j⟩ <;> rw [hw] at h
      · cases h
      · have := way_le d k f (l.drop m) u b j hw
        rw [List.length_drop] at this
        injection h with h
        injection h with h1 h2
        omega
theorem leaf_pos {k : Nat} {l : List UInt8} {g : Except Nat Held} {e : Nat} (hg : ∀ e, g = .error e → 1 ≤ e) (h : leaf k l g = .error e) : 1 ≤ e := by
  unfold leaf at h
  repeat' split at h
  all_goals first
    | (cases h; done)
    | (cases h; omega)
    | (injection h with h; subst h; have := uvarF_err ‹_›; omega)
    | exact hg e h
theorem tagOf_pos {l : List UInt8} {e : Nat} (h : tagOf l = .error e) : 1 ≤ e := by
  unfold tagOf at h
  rcases hu : uvar l with x | ⟨u, n⟩ <;> rw [hu] at h
  · have := uvarF_err hu; injection h with h; omega
  · simp only at h
    unfold untag at h
    split at h
    · rename_i x hx; injection h with h; split at hx <;> cases hx; omega
    · cases h
theorem grpLoop_pos {W : Nat → Nat → List UInt8 → Except Nat Held} (hW : ∀ k f l e, W k f l = .error e → 1 ≤ e) {field : Nat} {l : List UInt8} : ∀ {fuel p e : Nat}, grpLoop W field l fuel p = .error e → 1 ≤ e
  | 0, p, e, h => by rw [grpLoop] at h; cases h; omega
  | fuel + 1, p, e, h => by
    rw [grpLoop] at h
    rcases ht : tagOf (l.drop p) with x | ⟨f', k, n⟩ <;> rw [ht] at h
    · have := tagOf_pos ht; injection h with h; omega
    · simp only at h
      split at h
      · split at h <;> cases h; omega
      · rcases hw : W k f' (l.drop (p + n)) with x | ⟨u, b, j⟩ <;> rw [hw] at h
        · have := hW _ _ _ _ hw; injection h with h; omega
        · exact grpLoop_pos hW h
theorem way_pos : ∀ (d k f : Nat) (l : List UInt8) (e : Nat), way d k f l = .error e → 1 ≤ e
  | 0, k, f, l, e, h => leaf_pos (g := .error 105) (fun e h => by cases h; omega) h
  | d + 1, k, f, l, e, h => leaf_pos (g := grpLoop (way d) f l (l.length + 1) 0) (fun e h => grpLoop_pos (way_pos d) h) h
theorem nextD_pos {d : Nat} {l : List UInt8} {e : Nat} (h : nextD d l = .error e) : 1 ≤ e := by
  unfold nextD at h
  rcases ht : tagOf l with x | ⟨f, k, n⟩ <;> rw [ht] at h
  · have := tagOf_pos ht; injection h with h; omega
  · simp only at h
    split at h
    · cases h; omega
    · rcases hw : way d k f (l.drop n) with x | ⟨u, b, j⟩ <;> rw [hw] at h
      · have := way_pos d k f _ _ hw; injection h with h; omega
      · cases h
theorem grp_err {d f fuel p e : Nat} {l : List UInt8} (hne : ∀ n, tagOf (l.drop p) ≠ .ok (f, 4, n)) (h : nextD d (l.drop p) = .error e) : grpLoop (way d) f l (fuel + 1) p = .error e := by
  unfold nextD at h
  rw [grpLoop]
  rcases ht : tagOf (l.drop p) with x | ⟨f', k, n⟩ <;> rw [ht] at h
  · simpa using h
  · simp only at h ⊢
    by_cases hk : k = 4
    · subst hk
      by_cases hf : f' = f
      · subst hf; exact absurd ht (hne n)
      · simpa [hf] using h
    · rw [if_neg hk] at h ⊢
      rw [List.drop_drop] at h
      rcases hw : way d k f' (l.drop (p + n)) with x | ⟨u, b, j⟩ <;> rw [hw] at h
      · simpa using h
      · cases h
theorem grp_ok {d f fuel p m : Nat} {r : Rec} {l : List UInt8} (h : nextD d (l.drop p) = .ok (r, m)) : grpLoop (way d) f l (fuel + 1) p = grpLoop (way d) f l fuel (p + m) := by
  unfold nextD at h
  rw [grpLoop]
  rcases ht : tagOf (l.drop p) with x | ⟨f', k, n⟩ <;> rw [ht] at h
  · cases h
  · simp only at h ⊢
    by_cases hk : k = 4
    · rw [if_pos hk] at h; cases h
    · rw [if_neg hk] at h ⊢
      rw [List.drop_drop] at h
      rcases hw : way d k f' (l.drop (p + n)) with x | ⟨u, b, j⟩ <;> rw [hw] at h
      · cases h
      · injection h with h
        injection h with h1 h2
        simp only
        rw [h2]

theorem results_group (tmps : Array Value) (w : World) (g : Nat) (a b c d : Value) (ht : tmps[8]? = some (.pointer (some ⟨g, 0, none⟩))) (hb : Blk w g 36 #[a, b, c, d]) :
    (results Tryd.f43 tmps).run Tryd.prog w = .ok (.tuple #[.agg #[a, b, c, d], tmps.getD 9 undef, tmps.getD 10 undef]) w := by
  have c0 : w.cell? ⟨g, 0, none⟩ = some a := hb.cell 0
  have c1 : w.cell? ⟨g, 1, none⟩ = some b := hb.cell 1
  have c2 : w.cell? ⟨g, 2, none⟩ = some c := hb.cell 2
  have c3 : w.cell? ⟨g, 3, none⟩ = some d := hb.cell 3
  simp [results, Tryd.results43, go_sem, ht, c0, c1, c2, c3]

set_option maxHeartbeats 1000000 in
set_option maxRecDepth 100000 in
theorem grp_zero : GrpC 0 32 := by
  intro A n c f a l w B hr hB hn hnc ha
  clear hr
  unfold recCells
  go_enter Tryd.func43, Tryd.ntmps43
  go_wp2
  refine bodyPost_ret (results_group _ _ (w.heap.size + 1) _ _ _ _ rfl (blk2 w _ _ _)) rfl ⟨rfl, ?_⟩
  exact ((Below.refl _ _).alloc (Nat.le_refl _) _).alloc (by simp) _

def GRel (d f a n : Nat) (l : List UInt8) (w : World) (at_ : Value) (wr : World) : Prop :=
  ∃ p fuel : Nat, a + p ≤ n ∧ at_ = .int .i64 ((a : Int) + (p : Int)) ∧ way (d + 1) 3 f (l.drop a) = grpLoop (way d) f (l.drop a) (fuel + 1) p ∧ n - (a + p) ≤ fuel ∧ Below w.heap.size w wr ∧
    Blk wr w.heap.size 36 #[.int .i64 (f : Int), .int .i64 3, .int .u64 0, .slice none 0 0] ∧ Blk wr (w.heap.size + 1) 36 #[.int .i64 0, .int .i64 0, .int .u64 0, .slice none 0 0]

set_option maxHeartbeats 4000000 in
set_option maxRecDepth 100000 in
theorem grp_succ (d dep : Nat) (hdd : dep < 32) (hN : NextC d (dep + 1)) : GrpC (d + 1) dep := by
  intro A n c f a l w B hr hB hn hnc ha
  have HN : Hid (∀ (A : Option Addr) (n c : Nat) (l : List UInt8) (w : World) (B : Nat), Rd w B A n l → B ≤ w.heap.size → n ≤ 1000000000000 → n ≤ c → Calls Tryd.prog 32 #[.slice A n c, .int .i64 ((dep : Int) + 1)] w (RPost w (nextD d l))) := Lib.hid (fun A n c l w B h1 h2 h3 h4 => by
    have h := hN A n c l w B h1 h2 h3 h4
    rw [show ((dep + 1 : Nat) : Int) = (dep : Int) + 1 by omega] at h
    exact h)
  have HR := Lib.hid hr
  have HLN := Lib.hid hr.len
  clear hN hr
  unfold recCells
  have hdl : ¬ (32 : Int) ≤ (dep : Int) := by omega
  have hdd2 : decide ((32 : Int) ≤ (dep : Int)) = false := by simp; omega
  go_enter Tryd.func43, Tryd.ntmps43
  go_wp2
  go_loopw [2] (fun at_ wr => GRel d f a n l w at_ wr) (fun at_ _ => n - (intOf at_).toNat)
  case atStart =>
    refine ⟨0, n - a, by omega, by simp, ?_, by omega, ((Below.refl _ _).alloc (Nat.le_refl _) _).alloc (by simp) _, (Blk.new w _ _).alloc _, blk2 w _ _ _⟩
    have : (l.drop a).length = n - a := by rw [List.length_drop, HLN.out]
    rw [way_eq, leaf3, grpOf, this]
  case round =>
    obtain ⟨p, fuel, hp, rfl, hw, hf, hb, h5, h8⟩ := hrel
    have HW := Lib.hid hw
    have HB := Lib.hid hb
    have H5 := Lib.hid h5
    have H8 := Lib.hid h8
    clear hw hb h5 h8
    have hs8 := H8.out.lt
    have z0 := H8.out.frozen 0
    have z1 := H8.out.frozen 1
    have z2 := H8.out.frozen 2
    have z3 := H8.out.frozen 3
    have k0 : wr.cell? ⟨w.heap.size + 1, 0, none⟩ = some (.int .i64 0) := H8.out.cell 0
    have k1 : wr.cell? ⟨w.heap.size + 1, 1, none⟩ = some (.int .i64 0) := H8.out.cell 1
    have k2 : wr.cell? ⟨w.heap.size + 1, 2, none⟩ = some (.int .u64 0) := H8.out.cell 2
    have k3 : wr.cell? ⟨w.heap.size + 1, 3, none⟩ = some (.slice none 0 0) := H8.out.cell 3
    have c0 : wr.cell? ⟨w.heap.size, 0, none⟩ = some (.int .i64 (f : Int)) := H5.out.cell 0
    obtain ⟨A', hA', hsl⟩ := cut_from (c := c) byteP (HR.out.below (HB.out.mono hB)) ((a : Int) + (p : Int)) (k := a + p) (by omega) hp hnc
    have HA := Lib.hid hA'
    clear hA'
    have hle : (a : Int) + (p : Int) ≤ (n : Int) := by omega
    rcases hu : uvar (l.drop (a + p)) with k | ⟨t, m⟩
    · have hk1 : 1 ≤ k := by have := uvarF_err hu; omega
      have HU := Lib.hid hu
      have q1 : ((k : Int) != 0) = true := by simp; omega
      have q2 : ((k : Int) == 0) = false := by simp; omega
      clear hu
      go_wp2_with fail
      refine (r_uvarint_any A' (n - (a + p)) (c - (a + p)) (l.drop (a + p)) _ B (by exact HA.out) (by omega)).mono ?_
      rw [HU.out]
      rintro x W ⟨rfl, rfl⟩
      simp only [ruRes]
      go_wp2
      refine bodyPost_ret (results_group _ _ (w.heap.size + 1) _ _ _ _ rfl ((((H8.out.put 0 _).put 1 _).put 2 _).put 3 _)) rfl ?_
      rw [HW.out, grpLoop_tagErr (by rw [List.drop_drop]; exact tagOf_err1 HU.out)]
      exact ⟨rfl, (((HB.out.setCell (by simp) _).setCell (by simp) _).setCell (by simp) _).setCell (by simp) _⟩
    · -- a tag (gen/rf3.py)
      have hub := uvar_ok hu
      have htb : t < 18446744073709551616 := hub.2.2.2
      have hm : m ≤ n - (a + p) := by have := hub.2.1; rw [List.length_drop, HLN.out] at this; exact this
      have hm10 : m ≤ 10 := hub.2.2.1
      have HU := Lib.hid hu
      clear hu hub
      rcases ht : untag t with k | ⟨f', k⟩
      · have hk : k = 103 := by unfold untag at ht; split at ht <;> cases ht; rfl
        subst hk
        have HT := Lib.hid ht
        clear ht
        rcases hx : nextD d (l.drop (a + p)) with e | ⟨r, q⟩
        · have HX := Lib.hid hx
          have hne : ∀ n, tagOf ((l.drop a).drop p) ≠ .ok (f, 4, n) := by
            intro n'
            rw [List.drop_drop]
            rw [tagOf_err2 HU.out HT.out]; intro h; cases h
          have HG := Lib.hid (grp_err (fuel := fuel) hne (by rw [List.drop_drop]; exact hx))
          have he1 : 1 ≤ e := nextD_pos hx
          have q1 : ((e : Int) != 0) = true := by simp; omega
          have q2 : ((e : Int) == 0) = false := by simp; omega
          clear hx hne
          go_wp2_with fail
          refine (r_uvarint_any A' (n - (a + p)) (c - (a + p)) (l.drop (a + p)) _ B (by exact HA.out) (by omega)).mono ?_
          rw [HU.out]
          rintro x W ⟨rfl, rfl⟩
          simp only [ruRes]
          go_wp2_with fail
          refine (r_untag_any t _ htb).mono ?_
          rw [HT.out]
          rintro x W ⟨rfl, rfl⟩
          simp only [rtRes]
          go_wp2_with fail
          refine (HN.out A' (n - (a + p)) (c - (a + p)) (l.drop (a + p)) _ B (by exact HA.out) (Nat.le_trans hB HB.out.size) (by omega) (by omega)).mono ?_
          rw [HX.out]
          rintro x W3 ⟨rfl, hb3⟩
          unfold recCells
          have HB3 := Lib.hid (HB.out.trans (hb3.mono HB.out.size))
          have H83 := Lib.hid (H8.out.below hb3 H8.out.lt)
          clear hb3 z0 z1 z2 z3 k0 k1 k2 k3 c0 hsl
          have hs83 := H83.out.lt
          have z0 := H83.out.frozen 0
          have z1 := H83.out.frozen 1
          have z2 := H83.out.frozen 2
          have z3 := H83.out.frozen 3
          have k0 : W3.cell? ⟨w.heap.size + 1, 0, none⟩ = some (.int .i64 0) := H83.out.cell 0
          have k1 : W3.cell? ⟨w.heap.size + 1, 1, none⟩ = some (.int .i64 0) := H83.out.cell 1
          have k2 : W3.cell? ⟨w.heap.size + 1, 2, none⟩ = some (.int .u64 0) := H83.out.cell 2
          have k3 : W3.cell? ⟨w.heap.size + 1, 3, none⟩ = some (.slice none 0 0) := H83.out.cell 3
          go_wp2
          refine bodyPost_ret (results_group _ _ (w.heap.size + 1) _ _ _ _ rfl (by first | exact ((((H83.out.put 0 _).put 1 _).put 2 _).put 3 _).alloc _ | exact (((((H83.out.alloc _).put 0 _).put 1 _).put 2 _).put 3 _))) rfl ?_
          rw [HW.out, HG.out]
          refine ⟨rfl, ?_⟩
          first
            | exact ((((HB3.out.setCell (by simp) _).setCell (by simp) _).setCell (by simp) _).setCell (by simp) _).alloc (by have := HB3.out.size; simp; omega) _
            | exact ((((HB3.out.alloc HB3.out.size _).setCell (by simp) _).setCell (by simp) _).setCell (by simp) _).setCell (by simp) _
        · have HX := Lib.hid hx
          have HG := Lib.hid (grp_ok (f := f) (fuel := fuel) (p := p) (l := l.drop a) (by rw [List.drop_drop]; exact hx))
          have hq := nextD_le hx
          rw [List.length_drop, HLN.out] at hq
          obtain ⟨hq1, hq2⟩ := hq
          clear hx
          go_wp2_with fail
          refine (r_uvarint_any A' (n - (a + p)) (c - (a + p)) (l.drop (a + p)) _ B (by exact HA.out) (by omega)).mono ?_
          rw [HU.out]
          rintro x W ⟨rfl, rfl⟩
          simp only [ruRes]
          go_wp2_with fail
          refine (r_untag_any t _ htb).mono ?_
          rw [HT.out]
          rintro x W ⟨rfl, rfl⟩
          simp only [rtRes]
          go_wp2_with fail
          refine (HN.out A' (n - (a + p)) (c - (a + p)) (l.drop (a + p)) _ B (by exact HA.out) (Nat.le_trans hB HB.out.size) (by omega) (by omega)).mono ?_
          rw [HX.out]
          rintro x W3 ⟨v, rfl, ho, hb3⟩
          obtain ⟨Av, cv, rfl, _, _, _⟩ := ho.form
          unfold recCells
          have HB3 := Lib.hid (HB.out.trans (hb3.mono HB.out.size))
          have H53 := Lib.hid (H5.out.below hb3 H5.out.lt)
          have H83 := Lib.hid (H8.out.below hb3 H8.out.lt)
          clear hb3 ho z0 z1 z2 z3 k0 k1 k2 k3 c0 hsl
          go_wp2
          go_roundw
          case rel =>
            refine ⟨p + q, fuel - 1, by omega, by go_num, ?_, by omega, HB3.out.alloc HB3.out.size _, H53.out.alloc _, H83.out.alloc _⟩
            rw [HW.out, HG.out, show fuel - 1 + 1 = fuel by omega]
          case measure => simp [intOf]; omega
      · have hk5 := (tagOf_le (tagOf_ok HU.out ht)).2.2.1
        have hf1 := (tagOf_le (tagOf_ok HU.out ht)).1
        have hf2 := (tagOf_le (tagOf_ok HU.out ht)).2.1
        have HT := Lib.hid ht
        clear ht
        by_cases hk4 : k = 4
        · subst hk4
          by_cases hff : f' = f
          · obtain rfl : f' = f := hff
            have hend : Hid (grpLoop (way d) f' (l.drop a) (fuel + 1) p = .ok (0, (l.drop a).take p, p + m)) := Lib.hid (grpLoop_end (by rw [List.drop_drop]; exact tagOf_ok HU.out HT.out))
            obtain ⟨A2, hA2, hs2⟩ := cut_sub (c := c) byteP (HR.out.below (HB.out.mono hB)) (a : Int) ((a : Int) + (p : Int)) (k := a) (q := a + p) (m := p) rfl (by omega) rfl hp hnc
            have HA2 := Lib.hid hA2
            clear hA2
            go_wp2_with fail
            refine (r_uvarint_any A' (n - (a + p)) (c - (a + p)) (l.drop (a + p)) _ B (by exact HA.out) (by omega)).mono ?_
            rw [HU.out]
            rintro x W ⟨rfl, rfl⟩
            simp only [ruRes]
            go_wp2_with fail
            refine (r_untag_any t _ htb).mono ?_
            rw [HT.out]
            rintro x W ⟨rfl, rfl⟩
            simp only [rtRes]
            go_wp2_with fail
            refine (bytes_any A2 p (c - a) ((l.drop a).take p) _ B (by exact HA2.out) (Nat.le_trans hB HB.out.size) (by omega)).mono ?_
            rintro y W2 ⟨rfl, ho, hb2⟩
            have hgo : wr.heap.size < W2.heap.size := (ho.lt rfl).1
            have HO := Lib.hid ho
            have HB2 := Lib.hid (HB.out.trans (hb2.mono HB.out.size))
            have H52 := Lib.hid (H5.out.below hb2 H5.out.lt)
            have H82 := Lib.hid (H8.out.below hb2 H8.out.lt)
            clear z0 z1 z2 z3 k0 k1 k2 k3 c0 hsl hs2 hb2 ho HA HA2
            have hs12 : w.heap.size + 1 < wr.heap.size := hs8
            generalize wr.heap.size = go at *
            have z0 := H82.out.frozen 0
            have z1 := H82.out.frozen 1
            have z2 := H82.out.frozen 2
            have z3 := H82.out.frozen 3
            have k0 : W2.cell? ⟨w.heap.size + 1, 0, none⟩ = some (.int .i64 0) := H82.out.cell 0
            have k1 : W2.cell? ⟨w.heap.size + 1, 1, none⟩ = some (.int .i64 0) := H82.out.cell 1
            have k2 : W2.cell? ⟨w.heap.size + 1, 2, none⟩ = some (.int .u64 0) := H82.out.cell 2
            have k3 : W2.cell? ⟨w.heap.size + 1, 3, none⟩ = some (.slice none 0 0) := H82.out.cell 3
            have y3 := H52.out.frozen 3
            have c0 : W2.cell? ⟨w.heap.size, 0, none⟩ = some (.int .i64 (f' : Int)) := H52.out.cell 0
            have c1 : W2.cell? ⟨w.heap.size, 1, none⟩ = some (.int .i64 3) := H52.out.cell 1
            have c2 : W2.cell? ⟨w.heap.size, 2, none⟩ = some (.int .u64 0) := H52.out.cell 2
            have c3 : W2.cell? ⟨w.heap.size, 3, none⟩ = some (.slice none 0 0) := H52.out.cell 3
            have hgl : w.heap.size < W2.heap.size := by omega
            have hgl2 : w.heap.size + 1 < W2.heap.size := by omega
            go_wp2
            refine bodyPost_ret (results_group _ _ (w.heap.size + 1) _ _ _ _ rfl (((((H82.out.far (by simp) _).put 0 _).put 1 _).put 2 _).put 3 _)) rfl ?_
            rw [HW.out, hend.out]
            have hol : ((l.drop a).take p).length = p := by rw [List.length_take, List.length_drop, HLN.out]; omega
            refine ⟨.slice (some ⟨go, 0, none⟩) p p, by simp [recCells]; omega, ?_, ((((HB2.out.setCell (by simp) _).setCell (by simp) _).setCell (by simp) _).setCell (by simp) _).setCell (by simp) _⟩
            simp only [hol]
            refine Ow.base ?_ (show w.heap.size ≤ go by omega)
            refine Ow.grown (row := some (w.heap.size + 1)) ?_ (grown_setCell (grown_setCell (grown_setCell (grown_setCell (grown_of_below (Below.refl _ _) _) 0 _) 1 _) 2 _) 3 _) (Or.inr (by simp [Value.ownBlock]; omega))
            exact HO.out.grown (row := some w.heap.size) (grown_setCell (grown_of_below (Below.refl _ _) _) 3 _) (Or.inr (by simp [Value.ownBlock]; omega))
          · have t1 : ((f' : Int) == (f : Int)) = false := by simp; omega
            rcases hx : nextD d (l.drop (a + p)) with e | ⟨r, q⟩
            · have HX := Lib.hid hx
              have hne : ∀ n, tagOf ((l.drop a).drop p) ≠ .ok (f, 4, n) := by
                intro n'
                rw [List.drop_drop]
                rw [tagOf_ok HU.out HT.out]; intro h; injection h with h; injection h with h1 _; exact hff h1
              have HG := Lib.hid (grp_err (fuel := fuel) hne (by rw [List.drop_drop]; exact hx))
              have he1 : 1 ≤ e := nextD_pos hx
              have q1 : ((e : Int) != 0) = true := by simp; omega
              have q2 : ((e : Int) == 0) = false := by simp; omega
              clear hx hne
              go_wp2_with fail
              refine (r_uvarint_any A' (n - (a + p)) (c - (a + p)) (l.drop (a + p)) _ B (by exact HA.out) (by omega)).mono ?_
              rw [HU.out]
              rintro x W ⟨rfl, rfl⟩
              simp only [ruRes]
              go_wp2_with fail
              refine (r_untag_any t _ htb).mono ?_
              rw [HT.out]
              rintro x W ⟨rfl, rfl⟩
              simp only [rtRes]
              go_wp2_with fail
              refine (HN.out A' (n - (a + p)) (c - (a + p)) (l.drop (a + p)) _ B (by exact HA.out) (Nat.le_trans hB HB.out.size) (by omega) (by omega)).mono ?_
              rw [HX.out]
              rintro x W3 ⟨rfl, hb3⟩
              unfold recCells
              have HB3 := Lib.hid (HB.out.trans (hb3.mono HB.out.size))
              have H83 := Lib.hid (H8.out.below hb3 H8.out.lt)
              clear hb3 z0 z1 z2 z3 k0 k1 k2 k3 c0 hsl
              have hs83 := H83.out.lt
              have z0 := H83.out.frozen 0
              have z1 := H83.out.frozen 1
              have z2 := H83.out.frozen 2
              have z3 := H83.out.frozen 3
              have k0 : W3.cell? ⟨w.heap.size + 1, 0, none⟩ = some (.int .i64 0) := H83.out.cell 0
              have k1 : W3.cell? ⟨w.heap.size + 1, 1, none⟩ = some (.int .i64 0) := H83.out.cell 1
              have k2 : W3.cell? ⟨w.heap.size + 1, 2, none⟩ = some (.int .u64 0) := H83.out.cell 2
              have k3 : W3.cell? ⟨w.heap.size + 1, 3, none⟩ = some (.slice none 0 0) := H83.out.cell 3
              go_wp2
              refine bodyPost_ret (results_group _ _ (w.heap.size + 1) _ _ _ _ rfl (by first | exact ((((H83.out.put 0 _).put 1 _).put 2 _).put 3 _).alloc _ | exact (((((H83.out.alloc _).put 0 _).put 1 _).put 2 _).put 3 _))) rfl ?_
              rw [HW.out, HG.out]
              refine ⟨rfl, ?_⟩
              first
                | exact ((((HB3.out.setCell (by simp) _).setCell (by simp) _).setCell (by simp) _).setCell (by simp) _).alloc (by have := HB3.out.size; simp; omega) _
                | exact ((((HB3.out.alloc HB3.out.size _).setCell (by simp) _).setCell (by simp) _).setCell (by simp) _).setCell (by simp) _
            · have HX := Lib.hid hx
              have HG := Lib.hid (grp_ok (f := f) (fuel := fuel) (p := p) (l := l.drop a) (by rw [List.drop_drop]; exact hx))
              have hq := nextD_le hx
              rw [List.length_drop, HLN.out] at hq
              obtain ⟨hq1, hq2⟩ := hq
              clear hx
              go_wp2_with fail
              refine (r_uvarint_any A' (n - (a + p)) (c - (a + p)) (l.drop (a + p)) _ B (by exact HA.out) (by omega)).mono ?_
              rw [HU.out]
              rintro x W ⟨rfl, rfl⟩
              simp only [ruRes]
              go_wp2_with fail
              refine (r_untag_any t _ htb).mono ?_
              rw [HT.out]
              rintro x W ⟨rfl, rfl⟩
              simp only [rtRes]
              go_wp2_with fail
              refine (HN.out A' (n - (a + p)) (c - (a + p)) (l.drop (a + p)) _ B (by exact HA.out) (Nat.le_trans hB HB.out.size) (by omega) (by omega)).mono ?_
              rw [HX.out]
              rintro x W3 ⟨v, rfl, ho, hb3⟩
              obtain ⟨Av, cv, rfl, _, _, _⟩ := ho.form
              unfold recCells
              have HB3 := Lib.hid (HB.out.trans (hb3.mono HB.out.size))
              have H53 := Lib.hid (H5.out.below hb3 H5.out.lt)
              have H83 := Lib.hid (H8.out.below hb3 H8.out.lt)
              clear hb3 ho z0 z1 z2 z3 k0 k1 k2 k3 c0 hsl
              go_wp2
              go_roundw
              case rel =>
                refine ⟨p + q, fuel - 1, by omega, by go_num, ?_, by omega, HB3.out.alloc HB3.out.size _, H53.out.alloc _, H83.out.alloc _⟩
                rw [HW.out, HG.out, show fuel - 1 + 1 = fuel by omega]
              case measure => simp [intOf]; omega
        · have t1 : ((k : Int) == 4) = false := by simp; omega
          rcases hx : nextD d (l.drop (a + p)) with e | ⟨r, q⟩
          · have HX := Lib.hid hx
            have hne : ∀ n, tagOf ((l.drop a).drop p) ≠ .ok (f, 4, n) := by
              intro n'
              rw [List.drop_drop]
              rw [tagOf_ok HU.out HT.out]; intro h; injection h with h; injection h with _ h2; injection h2 with h2 _; exact hk4 h2
            have HG := Lib.hid (grp_err (fuel := fuel) hne (by rw [List.drop_drop]; exact hx))
            have he1 : 1 ≤ e := nextD_pos hx
            have q1 : ((e : Int) != 0) = true := by simp; omega
            have q2 : ((e : Int) == 0) = false := by simp; omega
            clear hx hne
            go_wp2_with fail
            refine (r_uvarint_any A' (n - (a + p)) (c - (a + p)) (l.drop (a + p)) _ B (by exact HA.out) (by omega)).mono ?_
            rw [HU.out]
            rintro x W ⟨rfl, rfl⟩
            simp only [ruRes]
            go_wp2_with fail
            refine (r_untag_any t _ htb).mono ?_
            rw [HT.out]
            rintro x W ⟨rfl, rfl⟩
            simp only [rtRes]
            go_wp2_with fail
            refine (HN.out A' (n - (a + p)) (c - (a + p)) (l.drop (a + p)) _ B (by exact HA.out) (Nat.le_trans hB HB.out.size) (by omega) (by omega)).mono ?_
            rw [HX.out]
            rintro x W3 ⟨rfl, hb3⟩
            unfold recCells
            have HB3 := Lib.hid (HB.out.trans (hb3.mono HB.out.size))
            have H83 := Lib.hid (H8.out.below hb3 H8.out.lt)
            clear hb3 z0 z1 z2 z3 k0 k1 k2 k3 c0 hsl
            have hs83 := H83.out.lt
            have z0 := H83.out.frozen 0
            have z1 := H83.out.frozen 1
            have z2 := H83.out.frozen 2
            have z3 := H83.out.frozen 3
            have k0 : W3.cell? ⟨w.heap.size + 1, 0, none⟩ = some (.int .i64 0) := H83.out.cell 0
            have k1 : W3.cell? ⟨w.heap.size + 1, 1, none⟩ = some (.int .i64 0) := H83.out.cell 1
            have k2 : W3.cell? ⟨w.heap.size + 1, 2, none⟩ = some (.int .u64 0) := H83.out.cell 2
            have k3 : W3.cell? ⟨w.heap.size + 1, 3, none⟩ = some (.slice none 0 0) := H83.out.cell 3
            go_wp2
            refine bodyPost_ret (results_group _ _ (w.heap.size + 1) _ _ _ _ rfl (by first | exact ((((H83.out.put 0 _).put 1 _).put 2 _).put 3 _).alloc _ | exact (((((H83.out.alloc _).put 0 _).put 1 _).put 2 _).put 3 _))) rfl ?_
            rw [HW.out, HG.out]
            refine ⟨rfl, ?_⟩
            first
              | exact ((((HB3.out.setCell (by simp) _).setCell (by simp) _).setCell (by simp) _).setCell (by simp) _).alloc (by have := HB3.out.size; simp; omega) _
              | exact ((((HB3.out.alloc HB3.out.size _).setCell (by simp) _).setCell (by simp) _).setCell (by simp) _).setCell (by simp) _
          · have HX := Lib.hid hx
            have HG := Lib.hid (grp_ok (f := f) (fuel := fuel) (p := p) (l := l.drop a) (by rw [List.drop_drop]; exact hx))
            have hq := nextD_le hx
            rw [List.length_drop, HLN.out] at hq
            obtain ⟨hq1, hq2⟩ := hq
            clear hx
            go_wp2_with fail
            refine (r_uvarint_any A' (n - (a + p)) (c - (a + p)) (l.drop (a + p)) _ B (by exact HA.out) (by omega)).mono ?_
            rw [HU.out]
            rintro x W ⟨rfl, rfl⟩
            simp only [ruRes]
            go_wp2_with fail
            refine (r_untag_any t _ htb).mono ?_
            rw [HT.out]
            rintro x W ⟨rfl, rfl⟩
            simp only [rtRes]
            go_wp2_with fail
            refine (HN.out A' (n - (a + p)) (c - (a + p)) (l.drop (a + p)) _ B (by exact HA.out) (Nat.le_trans hB HB.out.size) (by omega) (by omega)).mono ?_
            rw [HX.out]
            rintro x W3 ⟨v, rfl, ho, hb3⟩
            obtain ⟨Av, cv, rfl, _, _, _⟩ := ho.form
            unfold recCells
            have HB3 := Lib.hid (HB.out.trans (hb3.mono HB.out.size))
            have H53 := Lib.hid (H5.out.below hb3 H5.out.lt)
            have H83 := Lib.hid (H8.out.below hb3 H8.out.lt)
            clear hb3 ho z0 z1 z2 z3 k0 k1 k2 k3 c0 hsl
            go_wp2
            go_roundw
            case rel =>
              refine ⟨p + q, fuel - 1, by omega, by go_num, ?_, by omega, HB3.out.alloc HB3.out.size _, H53.out.alloc _, H83.out.alloc _⟩
              rw [HW.out, HG.out, show fuel - 1 + 1 = fuel by omega]
            case measure => simp [intOf]; omega

theorem grp_all : ∀ d, d ≤ 32 → GrpC d (32 - d) ∧ NextC d (32 - d)
  | 0, _ => ⟨grp_zero, next_of_grp 0 32 grp_zero⟩
  | d + 1, h => by
    have hN : NextC d (32 - (d + 1) + 1) := by
      rw [show 32 - (d + 1) + 1 = 32 - d by omega]
      exact (grp_all d (by omega)).2
    have hG := grp_succ d (32 - (d + 1)) (by omega) hN
    exact ⟨hG, next_of_grp _ _ hG⟩
end Go.Proofs.YtnahkhiomnkbcaaDoor
