/-
  Contracts of the document's answer: parleyref1.closed, next, group, Next.
-/
import Derived.Test.YtnahkhiomnkbcaaDoorRf1
namespace Go.Proofs.YtnahkhiomnkbcaaDoor
open Go.RowKit Go.Own Go.Own.Wire

/-- s[k:e], whatever the capacity. -/
theorem run_sub {P : Program} {t e : TypeId} (hP : ByteP P t e) (A : Option Addr) (n c k q : Nat) (hk : k ≤ q) (hq : q ≤ n) (hc : n ≤ c) (W : World) :
    (Instr.slice t (.slice A n c) (some (.int .i64 (k : Int))) (some (.int .i64 (q : Int))) none).run P W = .ok (.slice (if c = k then A else A.map fun x => x.add k) (q - k) (c - k)) W := by
  obtain ⟨i, hi, hz, h1, h2⟩ := hP.info
  simp [Instr.slice, run_underlying hP.slice, Instr.sliceBounds, run_sliceBound, sizeOf, typeInfo, hi, h1, Result.andThen, show (q : Int) ≤ c by omega, show (k : Int) ≤ q by omega]
theorem cut_sub {P : Program} {t e : TypeId} (hP : ByteP P t e) {w : World} {B n c k q m : Nat} {A : Option Addr} {l : List UInt8} (h : Rd w B A n l) (x y : Int) (hx : x = (k : Int)) (hy : y = (q : Int)) (hk : q = k + m) (hq : q ≤ n) (hc : n ≤ c) :
    ∃ A', Rd w B A' m ((l.drop k).take m) ∧ ∀ W : World, (Instr.slice t (.slice A n c) (some (.int .i64 x)) (some (.int .i64 y)) none).run P W = .ok (.slice A' m (c - k)) W :=
  ⟨_, h.sub (by omega) hc, fun W => by
    have := run_sub hP A n c k q (by omega) hq hc W
    rw [show q - k = m by omega] at this
    rw [hx, hy]; exact this⟩

/-- The record that bytes begin with, d groups more let. -/
def nextD (d : Nat) (l : List UInt8) : Except Nat (Rec × Nat) :=
  match tagOf l with
  | .error e => .error e
  | .ok (f, k, n) =>
    if k = 4 then .error 104
    else match way d k f (l.drop n) with
      | .error e => .error e
      | .ok (u, b, m) => .ok (⟨f, k, u, b⟩, n + m)
theorem next_is (l : List UInt8) : next l = nextD 32 l := rfl

/-- What the document's next answers. -/
def RPost (w : World) (res : Except Nat (Rec × Nat)) (e : Ending) (w' : World) : Prop :=
  match res with
  | .error k => e = .returned (.tuple #[.agg (recCells 0 0 0 (.slice none 0 0)), .int .i64 0, .int .i64 (k : Int)]) ∧ Below w.heap.size w w'
  | .ok (r, n) => ∃ v, e = .returned (.tuple #[.agg (recCells r.field r.kind r.u v), .int .i64 (n : Int), .int .i64 0]) ∧ Ow w' w.heap.size 5 v r.b.length r.b ∧ Below w.heap.size w w'

theorem results_closed (tmps : Array Value) (w : World) (g : Nat) (a b c d : Value) (ht : tmps[6]? = some (.pointer (some ⟨g, 0, none⟩))) (hb : Blk w g 36 #[a, b, c, d]) :
    (results Tryd.f41 tmps).run Tryd.prog w = .ok (.tuple #[.agg #[a, b, c, d], tmps.getD 7 undef, tmps.getD 8 undef]) w := by
  have c0 : w.cell? ⟨g, 0, none⟩ = some a := hb.cell 0
  have c1 : w.cell? ⟨g, 1, none⟩ = some b := hb.cell 1
  have c2 : w.cell? ⟨g, 2, none⟩ = some c := hb.cell 2
  have c3 : w.cell? ⟨g, 3, none⟩ = some d := hb.cell 3
  simp [results, Tryd.results41, go_sem, ht, c0, c1, c2, c3]
theorem blk2 (w : World) (o : Obj) (t : TypeId) (cs : Array Value) : Blk ((w.alloc o).alloc (.cells cs t)) (w.heap.size + 1) t cs := by
  have h := Blk.new (w.alloc o) t cs
  rwa [show (w.alloc o).heap.size = w.heap.size + 1 by simp] at h

set_option maxHeartbeats 400000 in
set_option maxRecDepth 100000 in
theorem closed_ok (f k u : Nat) (m : Int) (w : World) :
    Calls Tryd.prog 41 #[.agg (recCells f k u (.slice none 0 0)), .int .i64 m, .int .i64 0] w fun e w' => e = .returned (.tuple #[.agg (recCells f k u (.slice none 0 0)), .int .i64 m, .int .i64 0]) ∧ Below w.heap.size w w' := by
  unfold recCells
  go_enter Tryd.func41, Tryd.ntmps41
  go_wp2
  refine bodyPost_ret (results_closed _ _ (w.heap.size + 1) _ _ _ _ rfl (blk2 w _ _ _)) rfl ⟨rfl, ?_⟩
  exact ((Below.refl _ _).alloc (Nat.le_refl _) _).alloc (by simp) _
set_option maxHeartbeats 400000 in
set_option maxRecDepth 100000 in
theorem closed_err (f k u : Nat) (m : Int) (x : Nat) (w : World) (hx : 1 ≤ x) :
    Calls Tryd.prog 41 #[.agg (recCells f k u (.slice none 0 0)), .int .i64 m, .int .i64 (x : Int)] w fun e w' => e = .returned (.tuple #[.agg (recCells 0 0 0 (.slice none 0 0)), .int .i64 0, .int .i64 (x : Int)]) ∧ Below w.heap.size w w' := by
  unfold recCells
  have hx1 : ((x : Int) != 0) = true := by simp; omega
  have hx2 : ((x : Int) == 0) = false := by simp; omega
  go_enter Tryd.func41, Tryd.ntmps41
  go_wp2
  refine bodyPost_ret (results_closed _ _ (w.heap.size + 1) _ _ _ _ rfl (blk2 w _ _ _)) rfl ⟨rfl, ?_⟩
  exact ((Below.refl _ _).alloc (Nat.le_refl _) _).alloc (by simp) _
/-- Next: from here on printed by gen/rf.py. -/
def grpRes (f a : Nat) : Except Nat Held → Except Nat (Rec × Nat)
  | .error e => .error e
  | .ok (u, b, m) => .ok (⟨f, 3, u, b⟩, a + m)
def GrpC (d dep : Nat) : Prop := ∀ (A : Option Addr) (n c f a : Nat) (l : List UInt8) (w : World) (B : Nat), Rd w B A n l → B ≤ w.heap.size → n ≤ 1000000000000 → n ≤ c → a ≤ n →
  Calls Tryd.prog 43 #[.slice A n c, .agg (recCells f 3 0 (.slice none 0 0)), .int .i64 (a : Int), .int .i64 (dep : Int)] w (RPost w (grpRes f a (way d 3 f (l.drop a))))
def NextC (d dep : Nat) : Prop := ∀ (A : Option Addr) (n c : Nat) (l : List UInt8) (w : World) (B : Nat), Rd w B A n l → B ≤ w.heap.size → n ≤ 1000000000000 → n ≤ c →
  Calls Tryd.prog 32 #[.slice A n c, .int .i64 (dep : Int)] w (RPost w (nextD d l))

theorem own_nil (w : World) (b : Nat) : Ow w b 5 (.slice none 0 0) 0 [] := ⟨rfl, .inl ⟨rfl, rfl⟩⟩
theorem far_own {w : World} {b g n : Nat} {e : TypeId} {v : Value} {l : List UInt8} (h : Ow w b e v n l) (hg : g < b) : v.ownBlock = none ∨ v.ownBlock ≠ some g := by
  rcases hv : v.ownBlock with _ | x
  · exact .inl rfl
  · exact .inr (by have := h.lt hv; intro e; injection e; omega)
theorem results_next (tmps : Array Value) (w : World) (g : Nat) (a b c d : Value) (ht : tmps[4]? = some (.pointer (some ⟨g, 0, none⟩))) (hb : Blk w g 36 #[a, b, c, d]) :
    (results Tryd.f32 tmps).run Tryd.prog w = .ok (.tuple #[.agg #[a, b, c, d], tmps.getD 5 undef, tmps.getD 6 undef]) w := by
  have c0 : w.cell? ⟨g, 0, none⟩ = some a := hb.cell 0
  have c1 : w.cell? ⟨g, 1, none⟩ = some b := hb.cell 1
  have c2 : w.cell? ⟨g, 2, none⟩ = some c := hb.cell 2
  have c3 : w.cell? ⟨g, 3, none⟩ = some d := hb.cell 3
  simp [results, Tryd.results32, go_sem, ht, c0, c1, c2, c3]

theorem nextD_tagErr {d : Nat} {l : List UInt8} {k : Nat} (h : tagOf l = .error k) : nextD d l = .error k := by unfold nextD; rw [h]
theorem nextD_end {d : Nat} {l : List UInt8} {f n : Nat} (h : tagOf l = .ok (f, 4, n)) : nextD d l = .error 104 := by unfold nextD; rw [h]; rfl
theorem nextD_err {d : Nat} {l : List UInt8} {f k n e : Nat} (h : tagOf l = .ok (f, k, n)) (hk : k ≠ 4) (hw : way d k f (l.drop n) = .error e) : nextD d l = .error e := by unfold nextD; rw [h]; simp [hk, hw]
theorem nextD_ok {d : Nat} {l : List UInt8} {f k n u m : Nat} {b : List UInt8} (h : tagOf l = .ok (f, k, n)) (hk : k ≠ 4) (hw : way d k f (l.drop n) = .ok (u, b, m)) : nextD d l = .ok (⟨f, k, u, b⟩, n + m) := by unfold nextD; rw [h]; simp [hk, hw]

set_option maxHeartbeats 4000000 in
set_option maxRecDepth 100000 in
theorem r_next_e1 (d dep : Nat) (A : Option Addr) (n c : Nat) (l : List UInt8) (w : World) (B : Nat) (hr : Rd w B A n l) (hB : B ≤ w.heap.size) (hn : n ≤ 1000000000000) (hnc : n ≤ c) (k : Nat) (hu : uvar l = .error k) :
    Calls Tryd.prog 32 #[.slice A n c, .int .i64 (dep : Int)] w (RPost w (nextD d l)) := by
  have HR := Lib.hid hr
  have HLN := Lib.hid hr.len
  clear hr
  have hk1 : 1 ≤ k := by have := uvarF_err hu; omega
  have HU := Lib.hid hu
  have q1 : ((k : Int) != 0) = true := by simp; omega
  have q2 : ((k : Int) == 0) = false := by simp; omega
  clear hu
  go_enter Tryd.func32, Tryd.ntmps32
  go_wp2_with fail
  have HB0 := Lib.hid ((Below.refl w.heap.size w).alloc (Nat.le_refl _) (.cells #[.int .i64 0, .int .i64 0, .int .u64 0, .slice none 0 0] 36))
  have HK0 := Lib.hid (Blk.new w 36 #[.int .i64 0, .int .i64 0, .int .u64 0, .slice none 0 0])
  generalize w.alloc _ = W0 at HB0 HK0 ⊢
  refine (r_uvarint_any A n c l _ B (by exact HR.out.below (HB0.out.mono hB)) hn).mono ?_
  rw [HU.out]
  rintro x W ⟨rfl, rfl⟩
  have z0 := HK0.out.frozen 0
  have z1 := HK0.out.frozen 1
  have z2 := HK0.out.frozen 2
  have z3 := HK0.out.frozen 3
  have k0 : W0.cell? ⟨w.heap.size, 0, none⟩ = some (.int .i64 0) := HK0.out.cell 0
  have k1 : W0.cell? ⟨w.heap.size, 1, none⟩ = some (.int .i64 0) := HK0.out.cell 1
  have k2 : W0.cell? ⟨w.heap.size, 2, none⟩ = some (.int .u64 0) := HK0.out.cell 2
  have k3 : W0.cell? ⟨w.heap.size, 3, none⟩ = some (.slice none 0 0) := HK0.out.cell 3
  have hs0 := HK0.out.lt
  simp only [ruRes]
  go_wp2
  refine bodyPost_ret (results_next _ _ w.heap.size _ _ _ _ rfl ((((HK0.out.put 0 _).put 1 _).put 2 _).put 3 _)) rfl ?_
  rw [nextD_tagErr (tagOf_err1 HU.out)]
  exact ⟨rfl, (((HB0.out.setCell (Nat.le_refl _) _).setCell (Nat.le_refl _) _).setCell (Nat.le_refl _) _).setCell (Nat.le_refl _) _⟩

set_option maxHeartbeats 4000000 in
set_option maxRecDepth 100000 in
theorem r_next_e2 (d dep : Nat) (A : Option Addr) (n c : Nat) (l : List UInt8) (w : World) (B : Nat) (hr : Rd w B A n l) (hB : B ≤ w.heap.size) (hn : n ≤ 1000000000000) (hnc : n ≤ c) (t m k : Nat) (hu : uvar l = .ok (t, m)) (ht : untag t = .error k) :
    Calls Tryd.prog 32 #[.slice A n c, .int .i64 (dep : Int)] w (RPost w (nextD d l)) := by
  have HR := Lib.hid hr
  have HLN := Lib.hid hr.len
  clear hr
  have hk1 : k = 103 := by unfold untag at ht; split at ht <;> cases ht; rfl
  have hb := uvar_ok hu
  have htb : t < 18446744073709551616 := hb.2.2.2
  subst hk1
  have HU := Lib.hid hu
  have HT := Lib.hid ht
  clear hu ht hb
  go_enter Tryd.func32, Tryd.ntmps32
  go_wp2_with fail
  have HB0 := Lib.hid ((Below.refl w.heap.size w).alloc (Nat.le_refl _) (.cells #[.int .i64 0, .int .i64 0, .int .u64 0, .slice none 0 0] 36))
  have HK0 := Lib.hid (Blk.new w 36 #[.int .i64 0, .int .i64 0, .int .u64 0, .slice none 0 0])
  generalize w.alloc _ = W0 at HB0 HK0 ⊢
  refine (r_uvarint_any A n c l _ B (by exact HR.out.below (HB0.out.mono hB)) hn).mono ?_
  rw [HU.out]
  rintro x W ⟨rfl, rfl⟩
  have z0 := HK0.out.frozen 0
  have z1 := HK0.out.frozen 1
  have z2 := HK0.out.frozen 2
  have z3 := HK0.out.frozen 3
  have k0 : W0.cell? ⟨w.heap.size, 0, none⟩ = some (.int .i64 0) := HK0.out.cell 0
  have k1 : W0.cell? ⟨w.heap.size, 1, none⟩ = some (.int .i64 0) := HK0.out.cell 1
  have k2 : W0.cell? ⟨w.heap.size, 2, none⟩ = some (.int .u64 0) := HK0.out.cell 2
  have k3 : W0.cell? ⟨w.heap.size, 3, none⟩ = some (.slice none 0 0) := HK0.out.cell 3
  have hs0 := HK0.out.lt
  simp only [ruRes]
  go_wp2_with fail
  refine (r_untag_any t _ htb).mono ?_
  rw [HT.out]
  rintro x W ⟨rfl, rfl⟩
  simp only [rtRes]
  go_wp2
  refine bodyPost_ret (results_next _ _ w.heap.size _ _ _ _ rfl ((((HK0.out.put 0 _).put 1 _).put 2 _).put 3 _)) rfl ?_
  rw [nextD_tagErr (tagOf_err2 HU.out HT.out)]
  exact ⟨rfl, (((HB0.out.setCell (Nat.le_refl _) _).setCell (Nat.le_refl _) _).setCell (Nat.le_refl _) _).setCell (Nat.le_refl _) _⟩

set_option maxHeartbeats 4000000 in
set_option maxRecDepth 100000 in
theorem r_next_k0e (d dep : Nat) (A : Option Addr) (n c : Nat) (l : List UInt8) (w : World) (B : Nat) (hr : Rd w B A n l) (hB : B ≤ w.heap.size) (hn : n ≤ 1000000000000) (hnc : n ≤ c) (t m f : Nat) (hu : uvar l = .ok (t, m)) (ht : untag t = .ok (f, 0)) (x : Nat) (hx1 : 1 ≤ x) (hx : uvar (l.drop m) = .error x) :
    Calls Tryd.prog 32 #[.slice A n c, .int .i64 (dep : Int)] w (RPost w (nextD d l)) := by
  have HR := Lib.hid hr
  have HLN := Lib.hid hr.len
  clear hr
  have hb := uvar_ok hu
  have htb : t < 18446744073709551616 := hb.2.2.2
  have hm : m ≤ n := by have := hb.2.1; rw [HLN.out] at this; exact this
  have hm10 : m ≤ 10 := hb.2.2.1
  have HG := Lib.hid (tagOf_ok hu ht)
  have HU := Lib.hid hu
  have HT := Lib.hid ht
  clear hu ht hb
  have HX := Lib.hid hx
  clear hx
  have q1 : ((x : Int) != 0) = true := by simp; omega
  have q2 : ((x : Int) == 0) = false := by simp; omega
  obtain ⟨A', hA', hsl⟩ := cut_from (c := c) byteP HR.out (m : Int) (k := m) rfl hm hnc
  have HA := Lib.hid hA'
  clear hA'
  go_enter Tryd.func32, Tryd.ntmps32
  go_wp2_with fail
  have HB0 := Lib.hid ((Below.refl w.heap.size w).alloc (Nat.le_refl _) (.cells #[.int .i64 0, .int .i64 0, .int .u64 0, .slice none 0 0] 36))
  have HK0 := Lib.hid (Blk.new w 36 #[.int .i64 0, .int .i64 0, .int .u64 0, .slice none 0 0])
  generalize w.alloc _ = W0 at HB0 HK0 ⊢
  refine (r_uvarint_any A n c l _ B (by exact HR.out.below (HB0.out.mono hB)) hn).mono ?_
  rw [HU.out]
  rintro x W ⟨rfl, rfl⟩
  have z0 := HK0.out.frozen 0
  have z1 := HK0.out.frozen 1
  have z2 := HK0.out.frozen 2
  have z3 := HK0.out.frozen 3
  have k0 : W0.cell? ⟨w.heap.size, 0, none⟩ = some (.int .i64 0) := HK0.out.cell 0
  have k1 : W0.cell? ⟨w.heap.size, 1, none⟩ = some (.int .i64 0) := HK0.out.cell 1
  have k2 : W0.cell? ⟨w.heap.size, 2, none⟩ = some (.int .u64 0) := HK0.out.cell 2
  have k3 : W0.cell? ⟨w.heap.size, 3, none⟩ = some (.slice none 0 0) := HK0.out.cell 3
  have hs0 := HK0.out.lt
  simp only [ruRes]
  go_wp2_with fail
  refine (r_untag_any t _ htb).mono ?_
  rw [HT.out]
  rintro x W ⟨rfl, rfl⟩
  simp only [rtRes]
  go_wp2_with fail
  have HB1 := Lib.hid (HB0.out.alloc HB0.out.size (.cells #[.int .i64 (f : Int), .int .i64 0, .int .u64 0, .slice none 0 0] 36))
  have HK1 := Lib.hid (HK0.out.alloc (.cells #[.int .i64 (f : Int), .int .i64 0, .int .u64 0, .slice none 0 0] 36))
  have HP1 := Lib.hid (Blk.new W0 36 #[.int .i64 (f : Int), .int .i64 0, .int .u64 0, .slice none 0 0])
  have hsz : (W0.alloc (.cells #[.int .i64 (f : Int), .int .i64 0, .int .u64 0, .slice none 0 0] 36)).heap.size = W0.heap.size + 1 := by simp
  clear z0 z1 z2 z3 k0 k1 k2 k3 HK0
  generalize W0.alloc _ = W1 at HB1 HK1 HP1 hsz ⊢
  have hg13 : W0.heap.size < W1.heap.size := by omega
  clear hsz
  generalize W0.heap.size = gr at *
  have y2 := HP1.out.frozen 2
  have c0 : W1.cell? ⟨gr, 0, none⟩ = some (.int .i64 (f : Int)) := HP1.out.cell 0
  have c1 : W1.cell? ⟨gr, 1, none⟩ = some (.int .i64 0) := HP1.out.cell 1
  have c2 : W1.cell? ⟨gr, 2, none⟩ = some (.int .u64 0) := HP1.out.cell 2
  have c3 : W1.cell? ⟨gr, 3, none⟩ = some (.slice none 0 0) := HP1.out.cell 3
  refine (r_uvarint_any A' (n - m) (c - m) (l.drop m) _ B (by exact HA.out.below (HB1.out.mono hB)) (by omega)).mono ?_
  rw [HX.out]
  rintro y W ⟨rfl, rfl⟩
  simp only [ruRes]
  go_wp2_with fail
  have HB2 := Lib.hid (HB1.out.setCell (p := ⟨gr, 2, none⟩) (by simp; omega) (.int .u64 (0 : Int)))
  have HK2 := Lib.hid (HK1.out.far (p := ⟨gr, 2, none⟩) (by simp; omega) (.int .u64 (0 : Int)))
  clear HP1 HB1 HK1 hsl y2 c0 c1 c2 c3 HA
  generalize W1.setCell _ _ = W2 at HB2 HK2 ⊢
  refine (closed_err f 0 0 _ x _ hx1).mono ?_
  rintro z W3 ⟨rfl, hb3⟩
  have HB3 := Lib.hid (HB2.out.trans (hb3.mono HB2.out.size))
  have HK3 := Lib.hid (HK2.out.below hb3 HK2.out.lt)
  clear HB2 HK2 hb3
  unfold recCells
  have z0 := HK3.out.frozen 0
  have z1 := HK3.out.frozen 1
  have z2 := HK3.out.frozen 2
  have z3 := HK3.out.frozen 3
  have k0 : W3.cell? ⟨w.heap.size, 0, none⟩ = some (.int .i64 0) := HK3.out.cell 0
  have k1 : W3.cell? ⟨w.heap.size, 1, none⟩ = some (.int .i64 0) := HK3.out.cell 1
  have k2 : W3.cell? ⟨w.heap.size, 2, none⟩ = some (.int .u64 0) := HK3.out.cell 2
  have k3 : W3.cell? ⟨w.heap.size, 3, none⟩ = some (.slice none 0 0) := HK3.out.cell 3
  go_wp2
  refine bodyPost_ret (results_next _ _ w.heap.size _ _ _ _ rfl ((((HK3.out.put 0 _).put 1 _).put 2 _).put 3 _)) rfl ?_
  rw [nextD_err HG.out (by decide) (by rw [way_eq]; exact leaf0_err _ HX.out)]
  exact ⟨rfl, (((HB3.out.setCell (Nat.le_refl _) _).setCell (Nat.le_refl _) _).setCell (Nat.le_refl _) _).setCell (Nat.le_refl _) _⟩

set_option maxHeartbeats 4000000 in
set_option maxRecDepth 100000 in
theorem r_next_k0 (d dep : Nat) (A : Option Addr) (n c : Nat) (l : List UInt8) (w : World) (B : Nat) (hr : Rd w B A n l) (hB : B ≤ w.heap.size) (hn : n ≤ 1000000000000) (hnc : n ≤ c) (t m f : Nat) (hu : uvar l = .ok (t, m)) (ht : untag t = .ok (f, 0)) (u j : Nat) (hx : uvar (l.drop m) = .ok (u, j)) :
    Calls Tryd.prog 32 #[.slice A n c, .int .i64 (dep : Int)] w (RPost w (nextD d l)) := by
  have HR := Lib.hid hr
  have HLN := Lib.hid hr.len
  clear hr
  have hb := uvar_ok hu
  have htb : t < 18446744073709551616 := hb.2.2.2
  have hm : m ≤ n := by have := hb.2.1; rw [HLN.out] at this; exact this
  have hm10 : m ≤ 10 := hb.2.2.1
  have HG := Lib.hid (tagOf_ok hu ht)
  have HU := Lib.hid hu
  have HT := Lib.hid ht
  clear hu ht hb
  have HX := Lib.hid hx
  clear hx
  have hj : j ≤ 10 := by have := HX.out; exact (uvar_ok this).2.2.1
  obtain ⟨A', hA', hsl⟩ := cut_from (c := c) byteP HR.out (m : Int) (k := m) rfl hm hnc
  have HA := Lib.hid hA'
  clear hA'
  go_enter Tryd.func32, Tryd.ntmps32
  go_wp2_with fail
  have HB0 := Lib.hid ((Below.refl w.heap.size w).alloc (Nat.le_refl _) (.cells #[.int .i64 0, .int .i64 0, .int .u64 0, .slice none 0 0] 36))
  have HK0 := Lib.hid (Blk.new w 36 #[.int .i64 0, .int .i64 0, .int .u64 0, .slice none 0 0])
  generalize w.alloc _ = W0 at HB0 HK0 ⊢
  refine (r_uvarint_any A n c l _ B (by exact HR.out.below (HB0.out.mono hB)) hn).mono ?_
  rw [HU.out]
  rintro x W ⟨rfl, rfl⟩
  have z0 := HK0.out.frozen 0
  have z1 := HK0.out.frozen 1
  have z2 := HK0.out.frozen 2
  have z3 := HK0.out.frozen 3
  have k0 : W0.cell? ⟨w.heap.size, 0, none⟩ = some (.int .i64 0) := HK0.out.cell 0
  have k1 : W0.cell? ⟨w.heap.size, 1, none⟩ = some (.int .i64 0) := HK0.out.cell 1
  have k2 : W0.cell? ⟨w.heap.size, 2, none⟩ = some (.int .u64 0) := HK0.out.cell 2
  have k3 : W0.cell? ⟨w.heap.size, 3, none⟩ = some (.slice none 0 0) := HK0.out.cell 3
  have hs0 := HK0.out.lt
  simp only [ruRes]
  go_wp2_with fail
  refine (r_untag_any t _ htb).mono ?_
  rw [HT.out]
  rintro x W ⟨rfl, rfl⟩
  simp only [rtRes]
  go_wp2_with fail
  have HB1 := Lib.hid (HB0.out.alloc HB0.out.size (.cells #[.int .i64 (f : Int), .int .i64 0, .int .u64 0, .slice none 0 0] 36))
  have HK1 := Lib.hid (HK0.out.alloc (.cells #[.int .i64 (f : Int), .int .i64 0, .int .u64 0, .slice none 0 0] 36))
  have HP1 := Lib.hid (Blk.new W0 36 #[.int .i64 (f : Int), .int .i64 0, .int .u64 0, .slice none 0 0])
  have hsz : (W0.alloc (.cells #[.int .i64 (f : Int), .int .i64 0, .int .u64 0, .slice none 0 0] 36)).heap.size = W0.heap.size + 1 := by simp
  clear z0 z1 z2 z3 k0 k1 k2 k3 HK0
  generalize W0.alloc _ = W1 at HB1 HK1 HP1 hsz ⊢
  have hg13 : W0.heap.size < W1.heap.size := by omega
  clear hsz
  generalize W0.heap.size = gr at *
  have y2 := HP1.out.frozen 2
  have c0 : W1.cell? ⟨gr, 0, none⟩ = some (.int .i64 (f : Int)) := HP1.out.cell 0
  have c1 : W1.cell? ⟨gr, 1, none⟩ = some (.int .i64 0) := HP1.out.cell 1
  have c2 : W1.cell? ⟨gr, 2, none⟩ = some (.int .u64 0) := HP1.out.cell 2
  have c3 : W1.cell? ⟨gr, 3, none⟩ = some (.slice none 0 0) := HP1.out.cell 3
  refine (r_uvarint_any A' (n - m) (c - m) (l.drop m) _ B (by exact HA.out.below (HB1.out.mono hB)) (by omega)).mono ?_
  rw [HX.out]
  rintro y W ⟨rfl, rfl⟩
  simp only [ruRes]
  go_wp2_with fail
  have HB2 := Lib.hid (HB1.out.setCell (p := ⟨gr, 2, none⟩) (by simp; omega) (.int .u64 (u : Int)))
  have HK2 := Lib.hid (HK1.out.far (p := ⟨gr, 2, none⟩) (by simp; omega) (.int .u64 (u : Int)))
  clear HP1 HB1 HK1 hsl y2 c0 c1 c2 c3 HA
  generalize W1.setCell _ _ = W2 at HB2 HK2 ⊢
  refine (closed_ok f 0 u _ _).mono ?_
  rintro z W3 ⟨rfl, hb3⟩
  have HB3 := Lib.hid (HB2.out.trans (hb3.mono HB2.out.size))
  have HK3 := Lib.hid (HK2.out.below hb3 HK2.out.lt)
  clear HB2 HK2 hb3
  unfold recCells
  have z0 := HK3.out.frozen 0
  have z1 := HK3.out.frozen 1
  have z2 := HK3.out.frozen 2
  have z3 := HK3.out.frozen 3
  have k0 : W3.cell? ⟨w.heap.size, 0, none⟩ = some (.int .i64 0) := HK3.out.cell 0
  have k1 : W3.cell? ⟨w.heap.size, 1, none⟩ = some (.int .i64 0) := HK3.out.cell 1
  have k2 : W3.cell? ⟨w.heap.size, 2, none⟩ = some (.int .u64 0) := HK3.out.cell 2
  have k3 : W3.cell? ⟨w.heap.size, 3, none⟩ = some (.slice none 0 0) := HK3.out.cell 3
  go_wp2
  refine bodyPost_ret (results_next _ _ w.heap.size _ _ _ _ rfl ((((HK3.out.put 0 _).put 1 _).put 2 _).put 3 _)) rfl ?_
  rw [nextD_ok HG.out (by decide) (by rw [way_eq]; exact leaf0_ok _ HX.out)]
  exact ⟨_, by first | rfl | (simp [recCells] <;> omega), own_nil _ _, (((HB3.out.setCell (Nat.le_refl _) _).setCell (Nat.le_refl _) _).setCell (Nat.le_refl _) _).setCell (Nat.le_refl _) _⟩

set_option maxHeartbeats 4000000 in
set_option maxRecDepth 100000 in
theorem r_next_k1e (d dep : Nat) (A : Option Addr) (n c : Nat) (l : List UInt8) (w : World) (B : Nat) (hr : Rd w B A n l) (hB : B ≤ w.heap.size) (hn : n ≤ 1000000000000) (hnc : n ≤ c) (t m f : Nat) (hu : uvar l = .ok (t, m)) (ht : untag t = .ok (f, 1)) (x : Nat) (hx1 : 1 ≤ x) (hx : fixd 8 (l.drop m) = .error x) :
    Calls Tryd.prog 32 #[.slice A n c, .int .i64 (dep : Int)] w (RPost w (nextD d l)) := by
  have HR := Lib.hid hr
  have HLN := Lib.hid hr.len
  clear hr
  have hb := uvar_ok hu
  have htb : t < 18446744073709551616 := hb.2.2.2
  have hm : m ≤ n := by have := hb.2.1; rw [HLN.out] at this; exact this
  have hm10 : m ≤ 10 := hb.2.2.1
  have HG := Lib.hid (tagOf_ok hu ht)
  have HU := Lib.hid hu
  have HT := Lib.hid ht
  clear hu ht hb
  have HX := Lib.hid hx
  clear hx
  have q1 : ((x : Int) != 0) = true := by simp; omega
  have q2 : ((x : Int) == 0) = false := by simp; omega
  obtain ⟨A', hA', hsl⟩ := cut_from (c := c) byteP HR.out (m : Int) (k := m) rfl hm hnc
  have HA := Lib.hid hA'
  clear hA'
  go_enter Tryd.func32, Tryd.ntmps32
  go_wp2_with fail
  have HB0 := Lib.hid ((Below.refl w.heap.size w).alloc (Nat.le_refl _) (.cells #[.int .i64 0, .int .i64 0, .int .u64 0, .slice none 0 0] 36))
  have HK0 := Lib.hid (Blk.new w 36 #[.int .i64 0, .int .i64 0, .int .u64 0, .slice none 0 0])
  generalize w.alloc _ = W0 at HB0 HK0 ⊢
  refine (r_uvarint_any A n c l _ B (by exact HR.out.below (HB0.out.mono hB)) hn).mono ?_
  rw [HU.out]
  rintro x W ⟨rfl, rfl⟩
  have z0 := HK0.out.frozen 0
  have z1 := HK0.out.frozen 1
  have z2 := HK0.out.frozen 2
  have z3 := HK0.out.frozen 3
  have k0 : W0.cell? ⟨w.heap.size, 0, none⟩ = some (.int .i64 0) := HK0.out.cell 0
  have k1 : W0.cell? ⟨w.heap.size, 1, none⟩ = some (.int .i64 0) := HK0.out.cell 1
  have k2 : W0.cell? ⟨w.heap.size, 2, none⟩ = some (.int .u64 0) := HK0.out.cell 2
  have k3 : W0.cell? ⟨w.heap.size, 3, none⟩ = some (.slice none 0 0) := HK0.out.cell 3
  have hs0 := HK0.out.lt
  simp only [ruRes]
  go_wp2_with fail
  refine (r_untag_any t _ htb).mono ?_
  rw [HT.out]
  rintro x W ⟨rfl, rfl⟩
  simp only [rtRes]
  go_wp2_with fail
  have HB1 := Lib.hid (HB0.out.alloc HB0.out.size (.cells #[.int .i64 (f : Int), .int .i64 1, .int .u64 0, .slice none 0 0] 36))
  have HK1 := Lib.hid (HK0.out.alloc (.cells #[.int .i64 (f : Int), .int .i64 1, .int .u64 0, .slice none 0 0] 36))
  have HP1 := Lib.hid (Blk.new W0 36 #[.int .i64 (f : Int), .int .i64 1, .int .u64 0, .slice none 0 0])
  have hsz : (W0.alloc (.cells #[.int .i64 (f : Int), .int .i64 1, .int .u64 0, .slice none 0 0] 36)).heap.size = W0.heap.size + 1 := by simp
  clear z0 z1 z2 z3 k0 k1 k2 k3 HK0
  generalize W0.alloc _ = W1 at HB1 HK1 HP1 hsz ⊢
  have hg13 : W0.heap.size < W1.heap.size := by omega
  clear hsz
  generalize W0.heap.size = gr at *
  have y2 := HP1.out.frozen 2
  have c0 : W1.cell? ⟨gr, 0, none⟩ = some (.int .i64 (f : Int)) := HP1.out.cell 0
  have c1 : W1.cell? ⟨gr, 1, none⟩ = some (.int .i64 1) := HP1.out.cell 1
  have c2 : W1.cell? ⟨gr, 2, none⟩ = some (.int .u64 0) := HP1.out.cell 2
  have c3 : W1.cell? ⟨gr, 3, none⟩ = some (.slice none 0 0) := HP1.out.cell 3
  refine (r_unfixed_8 A' (n - m) (c - m) (l.drop m) _ B (by exact HA.out.below (HB1.out.mono hB)) (by omega)).mono ?_
  rw [HX.out]
  rintro y W ⟨rfl, rfl⟩
  simp only [ruRes]
  go_wp2_with fail
  have HB2 := Lib.hid (HB1.out.setCell (p := ⟨gr, 2, none⟩) (by simp; omega) (.int .u64 (0 : Int)))
  have HK2 := Lib.hid (HK1.out.far (p := ⟨gr, 2, none⟩) (by simp; omega) (.int .u64 (0 : Int)))
  clear HP1 HB1 HK1 hsl y2 c0 c1 c2 c3 HA
  generalize W1.setCell _ _ = W2 at HB2 HK2 ⊢
  refine (closed_err f 1 0 _ x _ hx1).mono ?_
  rintro z W3 ⟨rfl, hb3⟩
  have HB3 := Lib.hid (HB2.out.trans (hb3.mono HB2.out.size))
  have HK3 := Lib.hid (HK2.out.below hb3 HK2.out.lt)
  clear HB2 HK2 hb3
  unfold recCells
  have z0 := HK3.out.frozen 0
  have z1 := HK3.out.frozen 1
  have z2 := HK3.out.frozen 2
  have z3 := HK3.out.frozen 3
  have k0 : W3.cell? ⟨w.heap.size, 0, none⟩ = some (.int .i64 0) := HK3.out.cell 0
  have k1 : W3.cell? ⟨w.heap.size, 1, none⟩ = some (.int .i64 0) := HK3.out.cell 1
  have k2 : W3.cell? ⟨w.heap.size, 2, none⟩ = some (.int .u64 0) := HK3.out.cell 2
  have k3 : W3.cell? ⟨w.heap.size, 3, none⟩ = some (.slice none 0 0) := HK3.out.cell 3
  go_wp2
  refine bodyPost_ret (results_next _ _ w.heap.size _ _ _ _ rfl ((((HK3.out.put 0 _).put 1 _).put 2 _).put 3 _)) rfl ?_
  rw [nextD_err HG.out (by decide) (by rw [way_eq]; exact leaf_1_err _ HX.out)]
  exact ⟨rfl, (((HB3.out.setCell (Nat.le_refl _) _).setCell (Nat.le_refl _) _).setCell (Nat.le_refl _) _).setCell (Nat.le_refl _) _⟩

set_option maxHeartbeats 4000000 in
set_option maxRecDepth 100000 in
theorem r_next_k1 (d dep : Nat) (A : Option Addr) (n c : Nat) (l : List UInt8) (w : World) (B : Nat) (hr : Rd w B A n l) (hB : B ≤ w.heap.size) (hn : n ≤ 1000000000000) (hnc : n ≤ c) (t m f : Nat) (hu : uvar l = .ok (t, m)) (ht : untag t = .ok (f, 1)) (u j : Nat) (hx : fixd 8 (l.drop m) = .ok (u, j)) :
    Calls Tryd.prog 32 #[.slice A n c, .int .i64 (dep : Int)] w (RPost w (nextD d l)) := by
  have HR := Lib.hid hr
  have HLN := Lib.hid hr.len
  clear hr
  have hb := uvar_ok hu
  have htb : t < 18446744073709551616 := hb.2.2.2
  have hm : m ≤ n := by have := hb.2.1; rw [HLN.out] at this; exact this
  have hm10 : m ≤ 10 := hb.2.2.1
  have HG := Lib.hid (tagOf_ok hu ht)
  have HU := Lib.hid hu
  have HT := Lib.hid ht
  clear hu ht hb
  have HX := Lib.hid hx
  clear hx
  have hj : j ≤ 10 := by have := HX.out; unfold fixd at this; split at this <;> cases this; omega
  obtain ⟨A', hA', hsl⟩ := cut_from (c := c) byteP HR.out (m : Int) (k := m) rfl hm hnc
  have HA := Lib.hid hA'
  clear hA'
  go_enter Tryd.func32, Tryd.ntmps32
  go_wp2_with fail
  have HB0 := Lib.hid ((Below.refl w.heap.size w).alloc (Nat.le_refl _) (.cells #[.int .i64 0, .int .i64 0, .int .u64 0, .slice none 0 0] 36))
  have HK0 := Lib.hid (Blk.new w 36 #[.int .i64 0, .int .i64 0, .int .u64 0, .slice none 0 0])
  generalize w.alloc _ = W0 at HB0 HK0 ⊢
  refine (r_uvarint_any A n c l _ B (by exact HR.out.below (HB0.out.mono hB)) hn).mono ?_
  rw [HU.out]
  rintro x W ⟨rfl, rfl⟩
  have z0 := HK0.out.frozen 0
  have z1 := HK0.out.frozen 1
  have z2 := HK0.out.frozen 2
  have z3 := HK0.out.frozen 3
  have k0 : W0.cell? ⟨w.heap.size, 0, none⟩ = some (.int .i64 0) := HK0.out.cell 0
  have k1 : W0.cell? ⟨w.heap.size, 1, none⟩ = some (.int .i64 0) := HK0.out.cell 1
  have k2 : W0.cell? ⟨w.heap.size, 2, none⟩ = some (.int .u64 0) := HK0.out.cell 2
  have k3 : W0.cell? ⟨w.heap.size, 3, none⟩ = some (.slice none 0 0) := HK0.out.cell 3
  have hs0 := HK0.out.lt
  simp only [ruRes]
  go_wp2_with fail
  refine (r_untag_any t _ htb).mono ?_
  rw [HT.out]
  rintro x W ⟨rfl, rfl⟩
  simp only [rtRes]
  go_wp2_with fail
  have HB1 := Lib.hid (HB0.out.alloc HB0.out.size (.cells #[.int .i64 (f : Int), .int .i64 1, .int .u64 0, .slice none 0 0] 36))
  have HK1 := Lib.hid (HK0.out.alloc (.cells #[.int .i64 (f : Int), .int .i64 1, .int .u64 0, .slice none 0 0] 36))
  have HP1 := Lib.hid (Blk.new W0 36 #[.int .i64 (f : Int), .int .i64 1, .int .u64 0, .slice none 0 0])
  have hsz : (W0.alloc (.cells #[.int .i64 (f : Int), .int .i64 1, .int .u64 0, .slice none 0 0] 36)).heap.size = W0.heap.size + 1 := by simp
  clear z0 z1 z2 z3 k0 k1 k2 k3 HK0
  generalize W0.alloc _ = W1 at HB1 HK1 HP1 hsz ⊢
  have hg13 : W0.heap.size < W1.heap.size := by omega
  clear hsz
  generalize W0.heap.size = gr at *
  have y2 := HP1.out.frozen 2
  have c0 : W1.cell? ⟨gr, 0, none⟩ = some (.int .i64 (f : Int)) := HP1.out.cell 0
  have c1 : W1.cell? ⟨gr, 1, none⟩ = some (.int .i64 1) := HP1.out.cell 1
  have c2 : W1.cell? ⟨gr, 2, none⟩ = some (.int .u64 0) := HP1.out.cell 2
  have c3 : W1.cell? ⟨gr, 3, none⟩ = some (.slice none 0 0) := HP1.out.cell 3
  refine (r_unfixed_8 A' (n - m) (c - m) (l.drop m) _ B (by exact HA.out.below (HB1.out.mono hB)) (by omega)).mono ?_
  rw [HX.out]
  rintro y W ⟨rfl, rfl⟩
  simp only [ruRes]
  go_wp2_with fail
  have HB2 := Lib.hid (HB1.out.setCell (p := ⟨gr, 2, none⟩) (by simp; omega) (.int .u64 (u : Int)))
  have HK2 := Lib.hid (HK1.out.far (p := ⟨gr, 2, none⟩) (by simp; omega) (.int .u64 (u : Int)))
  clear HP1 HB1 HK1 hsl y2 c0 c1 c2 c3 HA
  generalize W1.setCell _ _ = W2 at HB2 HK2 ⊢
  refine (closed_ok f 1 u _ _).mono ?_
  rintro z W3 ⟨rfl, hb3⟩
  have HB3 := Lib.hid (HB2.out.trans (hb3.mono HB2.out.size))
  have HK3 := Lib.hid (HK2.out.below hb3 HK2.out.lt)
  clear HB2 HK2 hb3
  unfold recCells
  have z0 := HK3.out.frozen 0
  have z1 := HK3.out.frozen 1
  have z2 := HK3.out.frozen 2
  have z3 := HK3.out.frozen 3
  have k0 : W3.cell? ⟨w.heap.size, 0, none⟩ = some (.int .i64 0) := HK3.out.cell 0
  have k1 : W3.cell? ⟨w.heap.size, 1, none⟩ = some (.int .i64 0) := HK3.out.cell 1
  have k2 : W3.cell? ⟨w.heap.size, 2, none⟩ = some (.int .u64 0) := HK3.out.cell 2
  have k3 : W3.cell? ⟨w.heap.size, 3, none⟩ = some (.slice none 0 0) := HK3.out.cell 3
  go_wp2
  refine bodyPost_ret (results_next _ _ w.heap.size _ _ _ _ rfl ((((HK3.out.put 0 _).put 1 _).put 2 _).put 3 _)) rfl ?_
  rw [nextD_ok HG.out (by decide) (by rw [way_eq]; exact leaf_1_ok _ HX.out)]
  exact ⟨_, by first | rfl | (simp [recCells] <;> omega), own_nil _ _, (((HB3.out.setCell (Nat.le_refl _) _).setCell (Nat.le_refl _) _).setCell (Nat.le_refl _) _).setCell (Nat.le_refl _) _⟩

set_option maxHeartbeats 4000000 in
set_option maxRecDepth 100000 in
theorem r_next_k5e (d dep : Nat) (A : Option Addr) (n c : Nat) (l : List UInt8) (w : World) (B : Nat) (hr : Rd w B A n l) (hB : B ≤ w.heap.size) (hn : n ≤ 1000000000000) (hnc : n ≤ c) (t m f : Nat) (hu : uvar l = .ok (t, m)) (ht : untag t = .ok (f, 5)) (x : Nat) (hx1 : 1 ≤ x) (hx : fixd 4 (l.drop m) = .error x) :
    Calls Tryd.prog 32 #[.slice A n c, .int .i64 (dep : Int)] w (RPost w (nextD d l)) := by
  have HR := Lib.hid hr
  have HLN := Lib.hid hr.len
  clear hr
  have hb := uvar_ok hu
  have htb : t < 18446744073709551616 := hb.2.2.2
  have hm : m ≤ n := by have := hb.2.1; rw [HLN.out] at this; exact this
  have hm10 : m ≤ 10 := hb.2.2.1
  have HG := Lib.hid (tagOf_ok hu ht)
  have HU := Lib.hid hu
  have HT := Lib.hid ht
  clear hu ht hb
  have HX := Lib.hid hx
  clear hx
  have q1 : ((x : Int) != 0) = true := by simp; omega
  have q2 : ((x : Int) == 0) = false := by simp; omega
  obtain ⟨A', hA', hsl⟩ := cut_from (c := c) byteP HR.out (m : Int) (k := m) rfl hm hnc
  have HA := Lib.hid hA'
  clear hA'
  go_enter Tryd.func32, Tryd.ntmps32
  go_wp2_with fail
  have HB0 := Lib.hid ((Below.refl w.heap.size w).alloc (Nat.le_refl _) (.cells #[.int .i64 0, .int .i64 0, .int .u64 0, .slice none 0 0] 36))
  have HK0 := Lib.hid (Blk.new w 36 #[.int .i64 0, .int .i64 0, .int .u64 0, .slice none 0 0])
  generalize w.alloc _ = W0 at HB0 HK0 ⊢
  refine (r_uvarint_any A n c l _ B (by exact HR.out.below (HB0.out.mono hB)) hn).mono ?_
  rw [HU.out]
  rintro x W ⟨rfl, rfl⟩
  have z0 := HK0.out.frozen 0
  have z1 := HK0.out.frozen 1
  have z2 := HK0.out.frozen 2
  have z3 := HK0.out.frozen 3
  have k0 : W0.cell? ⟨w.heap.size, 0, none⟩ = some (.int .i64 0) := HK0.out.cell 0
  have k1 : W0.cell? ⟨w.heap.size, 1, none⟩ = some (.int .i64 0) := HK0.out.cell 1
  have k2 : W0.cell? ⟨w.heap.size, 2, none⟩ = some (.int .u64 0) := HK0.out.cell 2
  have k3 : W0.cell? ⟨w.heap.size, 3, none⟩ = some (.slice none 0 0) := HK0.out.cell 3
  have hs0 := HK0.out.lt
  simp only [ruRes]
  go_wp2_with fail
  refine (r_untag_any t _ htb).mono ?_
  rw [HT.out]
  rintro x W ⟨rfl, rfl⟩
  simp only [rtRes]
  go_wp2_with fail
  have HB1 := Lib.hid (HB0.out.alloc HB0.out.size (.cells #[.int .i64 (f : Int), .int .i64 5, .int .u64 0, .slice none 0 0] 36))
  have HK1 := Lib.hid (HK0.out.alloc (.cells #[.int .i64 (f : Int), .int .i64 5, .int .u64 0, .slice none 0 0] 36))
  have HP1 := Lib.hid (Blk.new W0 36 #[.int .i64 (f : Int), .int .i64 5, .int .u64 0, .slice none 0 0])
  have hsz : (W0.alloc (.cells #[.int .i64 (f : Int), .int .i64 5, .int .u64 0, .slice none 0 0] 36)).heap.size = W0.heap.size + 1 := by simp
  clear z0 z1 z2 z3 k0 k1 k2 k3 HK0
  generalize W0.alloc _ = W1 at HB1 HK1 HP1 hsz ⊢
  have hg13 : W0.heap.size < W1.heap.size := by omega
  clear hsz
  generalize W0.heap.size = gr at *
  have y2 := HP1.out.frozen 2
  have c0 : W1.cell? ⟨gr, 0, none⟩ = some (.int .i64 (f : Int)) := HP1.out.cell 0
  have c1 : W1.cell? ⟨gr, 1, none⟩ = some (.int .i64 5) := HP1.out.cell 1
  have c2 : W1.cell? ⟨gr, 2, none⟩ = some (.int .u64 0) := HP1.out.cell 2
  have c3 : W1.cell? ⟨gr, 3, none⟩ = some (.slice none 0 0) := HP1.out.cell 3
  refine (r_unfixed_4 A' (n - m) (c - m) (l.drop m) _ B (by exact HA.out.below (HB1.out.mono hB)) (by omega)).mono ?_
  rw [HX.out]
  rintro y W ⟨rfl, rfl⟩
  simp only [ruRes]
  go_wp2_with fail
  have HB2 := Lib.hid (HB1.out.setCell (p := ⟨gr, 2, none⟩) (by simp; omega) (.int .u64 (0 : Int)))
  have HK2 := Lib.hid (HK1.out.far (p := ⟨gr, 2, none⟩) (by simp; omega) (.int .u64 (0 : Int)))
  clear HP1 HB1 HK1 hsl y2 c0 c1 c2 c3 HA
  generalize W1.setCell _ _ = W2 at HB2 HK2 ⊢
  refine (closed_err f 5 0 _ x _ hx1).mono ?_
  rintro z W3 ⟨rfl, hb3⟩
  have HB3 := Lib.hid (HB2.out.trans (hb3.mono HB2.out.size))
  have HK3 := Lib.hid (HK2.out.below hb3 HK2.out.lt)
  clear HB2 HK2 hb3
  unfold recCells
  have z0 := HK3.out.frozen 0
  have z1 := HK3.out.frozen 1
  have z2 := HK3.out.frozen 2
  have z3 := HK3.out.frozen 3
  have k0 : W3.cell? ⟨w.heap.size, 0, none⟩ = some (.int .i64 0) := HK3.out.cell 0
  have k1 : W3.cell? ⟨w.heap.size, 1, none⟩ = some (.int .i64 0) := HK3.out.cell 1
  have k2 : W3.cell? ⟨w.heap.size, 2, none⟩ = some (.int .u64 0) := HK3.out.cell 2
  have k3 : W3.cell? ⟨w.heap.size, 3, none⟩ = some (.slice none 0 0) := HK3.out.cell 3
  go_wp2
  refine bodyPost_ret (results_next _ _ w.heap.size _ _ _ _ rfl ((((HK3.out.put 0 _).put 1 _).put 2 _).put 3 _)) rfl ?_
  rw [nextD_err HG.out (by decide) (by rw [way_eq]; exact leaf_5_err _ HX.out)]
  exact ⟨rfl, (((HB3.out.setCell (Nat.le_refl _) _).setCell (Nat.le_refl _) _).setCell (Nat.le_refl _) _).setCell (Nat.le_refl _) _⟩

set_option maxHeartbeats 4000000 in
set_option maxRecDepth 100000 in
theorem r_next_k5 (d dep : Nat) (A : Option Addr) (n c : Nat) (l : List UInt8) (w : World) (B : Nat) (hr : Rd w B A n l) (hB : B ≤ w.heap.size) (hn : n ≤ 1000000000000) (hnc : n ≤ c) (t m f : Nat) (hu : uvar l = .ok (t, m)) (ht : untag t = .ok (f, 5)) (u j : Nat) (hx : fixd 4 (l.drop m) = .ok (u, j)) :
    Calls Tryd.prog 32 #[.slice A n c, .int .i64 (dep : Int)] w (RPost w (nextD d l)) := by
  have HR := Lib.hid hr
  have HLN := Lib.hid hr.len
  clear hr
  have hb := uvar_ok hu
  have htb : t < 18446744073709551616 := hb.2.2.2
  have hm : m ≤ n := by have := hb.2.1; rw [HLN.out] at this; exact this
  have hm10 : m ≤ 10 := hb.2.2.1
  have HG := Lib.hid (tagOf_ok hu ht)
  have HU := Lib.hid hu
  have HT := Lib.hid ht
  clear hu ht hb
  have HX := Lib.hid hx
  clear hx
  have hj : j ≤ 10 := by have := HX.out; unfold fixd at this; split at this <;> cases this; omega
  obtain ⟨A', hA', hsl⟩ := cut_from (c := c) byteP HR.out (m : Int) (k := m) rfl hm hnc
  have HA := Lib.hid hA'
  clear hA'
  go_enter Tryd.func32, Tryd.ntmps32
  go_wp2_with fail
  have HB0 := Lib.hid ((Below.refl w.heap.size w).alloc (Nat.le_refl _) (.cells #[.int .i64 0, .int .i64 0, .int .u64 0, .slice none 0 0] 36))
  have HK0 := Lib.hid (Blk.new w 36 #[.int .i64 0, .int .i64 0, .int .u64 0, .slice none 0 0])
  generalize w.alloc _ = W0 at HB0 HK0 ⊢
  refine (r_uvarint_any A n c l _ B (by exact HR.out.below (HB0.out.mono hB)) hn).mono ?_
  rw [HU.out]
  rintro x W ⟨rfl, rfl⟩
  have z0 := HK0.out.frozen 0
  have z1 := HK0.out.frozen 1
  have z2 := HK0.out.frozen 2
  have z3 := HK0.out.frozen 3
  have k0 : W0.cell? ⟨w.heap.size, 0, none⟩ = some (.int .i64 0) := HK0.out.cell 0
  have k1 : W0.cell? ⟨w.heap.size, 1, none⟩ = some (.int .i64 0) := HK0.out.cell 1
  have k2 : W0.cell? ⟨w.heap.size, 2, none⟩ = some (.int .u64 0) := HK0.out.cell 2
  have k3 : W0.cell? ⟨w.heap.size, 3, none⟩ = some (.slice none 0 0) := HK0.out.cell 3
  have hs0 := HK0.out.lt
  simp only [ruRes]
  go_wp2_with fail
  refine (r_untag_any t _ htb).mono ?_
  rw [HT.out]
  rintro x W ⟨rfl, rfl⟩
  simp only [rtRes]
  go_wp2_with fail
  have HB1 := Lib.hid (HB0.out.alloc HB0.out.size (.cells #[.int .i64 (f : Int), .int .i64 5, .int .u64 0, .slice none 0 0] 36))
  have HK1 := Lib.hid (HK0.out.alloc (.cells #[.int .i64 (f : Int), .int .i64 5, .int .u64 0, .slice none 0 0] 36))
  have HP1 := Lib.hid (Blk.new W0 36 #[.int .i64 (f : Int), .int .i64 5, .int .u64 0, .slice none 0 0])
  have hsz : (W0.alloc (.cells #[.int .i64 (f : Int), .int .i64 5, .int .u64 0, .slice none 0 0] 36)).heap.size = W0.heap.size + 1 := by simp
  clear z0 z1 z2 z3 k0 k1 k2 k3 HK0
  generalize W0.alloc _ = W1 at HB1 HK1 HP1 hsz ⊢
  have hg13 : W0.heap.size < W1.heap.size := by omega
  clear hsz
  generalize W0.heap.size = gr at *
  have y2 := HP1.out.frozen 2
  have c0 : W1.cell? ⟨gr, 0, none⟩ = some (.int .i64 (f : Int)) := HP1.out.cell 0
  have c1 : W1.cell? ⟨gr, 1, none⟩ = some (.int .i64 5) := HP1.out.cell 1
  have c2 : W1.cell? ⟨gr, 2, none⟩ = some (.int .u64 0) := HP1.out.cell 2
  have c3 : W1.cell? ⟨gr, 3, none⟩ = some (.slice none 0 0) := HP1.out.cell 3
  refine (r_unfixed_4 A' (n - m) (c - m) (l.drop m) _ B (by exact HA.out.below (HB1.out.mono hB)) (by omega)).mono ?_
  rw [HX.out]
  rintro y W ⟨rfl, rfl⟩
  simp only [ruRes]
  go_wp2_with fail
  have HB2 := Lib.hid (HB1.out.setCell (p := ⟨gr, 2, none⟩) (by simp; omega) (.int .u64 (u : Int)))
  have HK2 := Lib.hid (HK1.out.far (p := ⟨gr, 2, none⟩) (by simp; omega) (.int .u64 (u : Int)))
  clear HP1 HB1 HK1 hsl y2 c0 c1 c2 c3 HA
  generalize W1.setCell _ _ = W2 at HB2 HK2 ⊢
  refine (closed_ok f 5 u _ _).mono ?_
  rintro z W3 ⟨rfl, hb3⟩
  have HB3 := Lib.hid (HB2.out.trans (hb3.mono HB2.out.size))
  have HK3 := Lib.hid (HK2.out.below hb3 HK2.out.lt)
  clear HB2 HK2 hb3
  unfold recCells
  have z0 := HK3.out.frozen 0
  have z1 := HK3.out.frozen 1
  have z2 := HK3.out.frozen 2
  have z3 := HK3.out.frozen 3
  have k0 : W3.cell? ⟨w.heap.size, 0, none⟩ = some (.int .i64 0) := HK3.out.cell 0
  have k1 : W3.cell? ⟨w.heap.size, 1, none⟩ = some (.int .i64 0) := HK3.out.cell 1
  have k2 : W3.cell? ⟨w.heap.size, 2, none⟩ = some (.int .u64 0) := HK3.out.cell 2
  have k3 : W3.cell? ⟨w.heap.size, 3, none⟩ = some (.slice none 0 0) := HK3.out.cell 3
  go_wp2
  refine bodyPost_ret (results_next _ _ w.heap.size _ _ _ _ rfl ((((HK3.out.put 0 _).put 1 _).put 2 _).put 3 _)) rfl ?_
  rw [nextD_ok HG.out (by decide) (by rw [way_eq]; exact leaf_5_ok _ HX.out)]
  exact ⟨_, by first | rfl | (simp [recCells] <;> omega), own_nil _ _, (((HB3.out.setCell (Nat.le_refl _) _).setCell (Nat.le_refl _) _).setCell (Nat.le_refl _) _).setCell (Nat.le_refl _) _⟩

set_option maxHeartbeats 4000000 in
set_option maxRecDepth 100000 in
theorem r_next_k4 (d dep : Nat) (A : Option Addr) (n c : Nat) (l : List UInt8) (w : World) (B : Nat) (hr : Rd w B A n l) (hB : B ≤ w.heap.size) (hn : n ≤ 1000000000000) (hnc : n ≤ c) (t m f : Nat) (hu : uvar l = .ok (t, m)) (ht : untag t = .ok (f, 4)) :
    Calls Tryd.prog 32 #[.slice A n c, .int .i64 (dep : Int)] w (RPost w (nextD d l)) := by
  have HR := Lib.hid hr
  have HLN := Lib.hid hr.len
  clear hr
  have hb := uvar_ok hu
  have htb : t < 18446744073709551616 := hb.2.2.2
  have hm : m ≤ n := by have := hb.2.1; rw [HLN.out] at this; exact this
  have hm10 : m ≤ 10 := hb.2.2.1
  have HG := Lib.hid (tagOf_ok hu ht)
  have HU := Lib.hid hu
  have HT := Lib.hid ht
  clear hu ht hb
  go_enter Tryd.func32, Tryd.ntmps32
  go_wp2_with fail
  have HB0 := Lib.hid ((Below.refl w.heap.size w).alloc (Nat.le_refl _) (.cells #[.int .i64 0, .int .i64 0, .int .u64 0, .slice none 0 0] 36))
  have HK0 := Lib.hid (Blk.new w 36 #[.int .i64 0, .int .i64 0, .int .u64 0, .slice none 0 0])
  generalize w.alloc _ = W0 at HB0 HK0 ⊢
  refine (r_uvarint_any A n c l _ B (by exact HR.out.below (HB0.out.mono hB)) hn).mono ?_
  rw [HU.out]
  rintro x W ⟨rfl, rfl⟩
  have z0 := HK0.out.frozen 0
  have z1 := HK0.out.frozen 1
  have z2 := HK0.out.frozen 2
  have z3 := HK0.out.frozen 3
  have k0 : W0.cell? ⟨w.heap.size, 0, none⟩ = some (.int .i64 0) := HK0.out.cell 0
  have k1 : W0.cell? ⟨w.heap.size, 1, none⟩ = some (.int .i64 0) := HK0.out.cell 1
  have k2 : W0.cell? ⟨w.heap.size, 2, none⟩ = some (.int .u64 0) := HK0.out.cell 2
  have k3 : W0.cell? ⟨w.heap.size, 3, none⟩ = some (.slice none 0 0) := HK0.out.cell 3
  have hs0 := HK0.out.lt
  simp only [ruRes]
  go_wp2_with fail
  refine (r_untag_any t _ htb).mono ?_
  rw [HT.out]
  rintro x W ⟨rfl, rfl⟩
  simp only [rtRes]
  go_wp2
  refine bodyPost_ret (results_next _ _ w.heap.size _ _ _ _ rfl (by first | exact ((((HK0.out.put 0 _).put 1 _).put 2 _).put 3 _).alloc _ | exact (((((HK0.out.alloc _).put 0 _).put 1 _).put 2 _).put 3 _))) rfl ?_
  rw [nextD_end HG.out]
  refine ⟨rfl, ?_⟩
  first
    | exact ((((HB0.out.setCell (Nat.le_refl _) _).setCell (Nat.le_refl _) _).setCell (Nat.le_refl _) _).setCell (Nat.le_refl _) _).alloc (by have := HB0.out.size; simp; omega) _
    | exact ((((HB0.out.alloc HB0.out.size _).setCell (Nat.le_refl _) _).setCell (Nat.le_refl _) _).setCell (Nat.le_refl _) _).setCell (Nat.le_refl _) _

set_option maxHeartbeats 4000000 in
set_option maxRecDepth 100000 in
theorem r_next_k3 (d dep : Nat) (A : Option Addr) (n c : Nat) (l : List UInt8) (w : World) (B : Nat) (hr : Rd w B A n l) (hB : B ≤ w.heap.size) (hn : n ≤ 1000000000000) (hnc : n ≤ c) (t m f : Nat) (hu : uvar l = .ok (t, m)) (ht : untag t = .ok (f, 3)) (hgr : GrpC d dep) :
    Calls Tryd.prog 32 #[.slice A n c, .int .i64 (dep : Int)] w (RPost w (nextD d l)) := by
  have HR := Lib.hid hr
  have HLN := Lib.hid hr.len
  clear hr
  have hb := uvar_ok hu
  have htb : t < 18446744073709551616 := hb.2.2.2
  have hm : m ≤ n := by have := hb.2.1; rw [HLN.out] at this; exact this
  have hm10 : m ≤ 10 := hb.2.2.1
  have HG := Lib.hid (tagOf_ok hu ht)
  have HU := Lib.hid hu
  have HT := Lib.hid ht
  clear hu ht hb
  have HGR := Lib.hid hgr
  clear hgr
  go_enter Tryd.func32, Tryd.ntmps32
  go_wp2_with fail
  have HB0 := Lib.hid ((Below.refl w.heap.size w).alloc (Nat.le_refl _) (.cells #[.int .i64 0, .int .i64 0, .int .u64 0, .slice none 0 0] 36))
  have HK0 := Lib.hid (Blk.new w 36 #[.int .i64 0, .int .i64 0, .int .u64 0, .slice none 0 0])
  generalize w.alloc _ = W0 at HB0 HK0 ⊢
  refine (r_uvarint_any A n c l _ B (by exact HR.out.below (HB0.out.mono hB)) hn).mono ?_
  rw [HU.out]
  rintro x W ⟨rfl, rfl⟩
  have z0 := HK0.out.frozen 0
  have z1 := HK0.out.frozen 1
  have z2 := HK0.out.frozen 2
  have z3 := HK0.out.frozen 3
  have k0 : W0.cell? ⟨w.heap.size, 0, none⟩ = some (.int .i64 0) := HK0.out.cell 0
  have k1 : W0.cell? ⟨w.heap.size, 1, none⟩ = some (.int .i64 0) := HK0.out.cell 1
  have k2 : W0.cell? ⟨w.heap.size, 2, none⟩ = some (.int .u64 0) := HK0.out.cell 2
  have k3 : W0.cell? ⟨w.heap.size, 3, none⟩ = some (.slice none 0 0) := HK0.out.cell 3
  have hs0 := HK0.out.lt
  simp only [ruRes]
  go_wp2_with fail
  refine (r_untag_any t _ htb).mono ?_
  rw [HT.out]
  rintro x W ⟨rfl, rfl⟩
  simp only [rtRes]
  go_wp2_with fail
  have HB1 := Lib.hid (HB0.out.alloc HB0.out.size (.cells #[.int .i64 (f : Int), .int .i64 3, .int .u64 0, .slice none 0 0] 36))
  have HK1 := Lib.hid (HK0.out.alloc (.cells #[.int .i64 (f : Int), .int .i64 3, .int .u64 0, .slice none 0 0] 36))
  have HP1 := Lib.hid (Blk.new W0 36 #[.int .i64 (f : Int), .int .i64 3, .int .u64 0, .slice none 0 0])
  have hsz : (W0.alloc (.cells #[.int .i64 (f : Int), .int .i64 3, .int .u64 0, .slice none 0 0] 36)).heap.size = W0.heap.size + 1 := by simp
  clear z0 z1 z2 z3 k0 k1 k2 k3 HK0
  generalize W0.alloc _ = W1 at HB1 HK1 HP1 hsz ⊢
  have hg13 : W0.heap.size < W1.heap.size := by omega
  clear hsz
  generalize W0.heap.size = gr at *
  have y2 := HP1.out.frozen 2
  have c0 : W1.cell? ⟨gr, 0, none⟩ = some (.int .i64 (f : Int)) := HP1.out.cell 0
  have c1 : W1.cell? ⟨gr, 1, none⟩ = some (.int .i64 3) := HP1.out.cell 1
  have c2 : W1.cell? ⟨gr, 2, none⟩ = some (.int .u64 0) := HP1.out.cell 2
  have c3 : W1.cell? ⟨gr, 3, none⟩ = some (.slice none 0 0) := HP1.out.cell 3
  have HC := Lib.hid (HGR.out A n c f m l W1 B (HR.out.below (HB1.out.mono hB)) (Nat.le_trans hB HB1.out.size) hn hnc hm)
  rcases hx : way d 3 f (l.drop m) with x | ⟨u, b, j⟩
  · rw [hx] at HC
    have HX := Lib.hid hx
    clear hx HGR y2 c0 c1 c2 c3
    refine HC.out.mono ?_
    rintro z W3 ⟨rfl, hb3⟩
    have HB3 := Lib.hid (HB1.out.trans (hb3.mono HB1.out.size))
    have HK3 := Lib.hid (HK1.out.below hb3 HK1.out.lt)
    clear HB1 HK1 hb3 HP1 HC
    unfold recCells
    have z0 := HK3.out.frozen 0
    have z1 := HK3.out.frozen 1
    have z2 := HK3.out.frozen 2
    have z3 := HK3.out.frozen 3
    have k0 : W3.cell? ⟨w.heap.size, 0, none⟩ = some (.int .i64 0) := HK3.out.cell 0
    have k1 : W3.cell? ⟨w.heap.size, 1, none⟩ = some (.int .i64 0) := HK3.out.cell 1
    have k2 : W3.cell? ⟨w.heap.size, 2, none⟩ = some (.int .u64 0) := HK3.out.cell 2
    have k3 : W3.cell? ⟨w.heap.size, 3, none⟩ = some (.slice none 0 0) := HK3.out.cell 3
    go_wp2
    refine bodyPost_ret (results_next _ _ w.heap.size _ _ _ _ rfl ((((HK3.out.put 0 _).put 1 _).put 2 _).put 3 _)) rfl ?_
    rw [nextD_err HG.out (by decide) HX.out]
    exact ⟨rfl, (((HB3.out.setCell (Nat.le_refl _) _).setCell (Nat.le_refl _) _).setCell (Nat.le_refl _) _).setCell (Nat.le_refl _) _⟩
  · rw [hx] at HC
    have HX := Lib.hid hx
    clear hx HGR y2 c0 c1 c2 c3
    refine HC.out.mono ?_
    rintro z W3 ⟨v, rfl, ho, hb3⟩
    have HB3 := Lib.hid (HB1.out.trans (hb3.mono HB1.out.size))
    have HK3 := Lib.hid (HK1.out.below hb3 HK1.out.lt)
    have hs1 : w.heap.size < W1.heap.size := by omega
    obtain ⟨Av, cv, rfl, _, _, _⟩ := ho.form
    have HO := Lib.hid ho
    clear HB1 HK1 hb3 HP1 HC ho
    unfold recCells
    have z0 := HK3.out.frozen 0
    have z1 := HK3.out.frozen 1
    have z2 := HK3.out.frozen 2
    have z3 := HK3.out.frozen 3
    have k0 : W3.cell? ⟨w.heap.size, 0, none⟩ = some (.int .i64 0) := HK3.out.cell 0
    have k1 : W3.cell? ⟨w.heap.size, 1, none⟩ = some (.int .i64 0) := HK3.out.cell 1
    have k2 : W3.cell? ⟨w.heap.size, 2, none⟩ = some (.int .u64 0) := HK3.out.cell 2
    have k3 : W3.cell? ⟨w.heap.size, 3, none⟩ = some (.slice none 0 0) := HK3.out.cell 3
    go_wp2
    refine bodyPost_ret (results_next _ _ w.heap.size _ _ _ _ rfl ((((HK3.out.put 0 _).put 1 _).put 2 _).put 3 _)) rfl ?_
    rw [nextD_ok HG.out (by decide) HX.out]
    refine ⟨_, rfl, ?_, (((HB3.out.setCell (Nat.le_refl _) _).setCell (Nat.le_refl _) _).setCell (Nat.le_refl _) _).setCell (Nat.le_refl _) _⟩
    refine (HO.out.grown (row := some w.heap.size) (grown_setCell (grown_setCell (grown_setCell (grown_setCell (grown_of_below (Below.refl _ _) _) 0 _) 1 _) 2 _) 3 _) ?_).base (by omega)
    exact far_own HO.out hs1

set_option maxHeartbeats 4000000 in
set_option maxRecDepth 100000 in
theorem r_next_k2e (d dep : Nat) (A : Option Addr) (n c : Nat) (l : List UInt8) (w : World) (B : Nat) (hr : Rd w B A n l) (hB : B ≤ w.heap.size) (hn : n ≤ 1000000000000) (hnc : n ≤ c) (t m f : Nat) (hu : uvar l = .ok (t, m)) (ht : untag t = .ok (f, 2)) (x : Nat) (hx : uvar (l.drop m) = .error x) :
    Calls Tryd.prog 32 #[.slice A n c, .int .i64 (dep : Int)] w (RPost w (nextD d l)) := by
  have HR := Lib.hid hr
  have HLN := Lib.hid hr.len
  clear hr
  have hb := uvar_ok hu
  have htb : t < 18446744073709551616 := hb.2.2.2
  have hm : m ≤ n := by have := hb.2.1; rw [HLN.out] at this; exact this
  have hm10 : m ≤ 10 := hb.2.2.1
  have HG := Lib.hid (tagOf_ok hu ht)
  have HU := Lib.hid hu
  have HT := Lib.hid ht
  clear hu ht hb
  have hx1 : 1 ≤ x := by have := uvarF_err hx; omega
  have HX := Lib.hid hx
  clear hx
  have q1 : ((x : Int) != 0) = true := by simp; omega
  have q2 : ((x : Int) == 0) = false := by simp; omega
  obtain ⟨A', hA', hsl⟩ := cut_from (c := c) byteP HR.out (m : Int) (k := m) rfl hm hnc
  have HA := Lib.hid hA'
  clear hA'
  go_enter Tryd.func32, Tryd.ntmps32
  go_wp2_with fail
  have HB0 := Lib.hid ((Below.refl w.heap.size w).alloc (Nat.le_refl _) (.cells #[.int .i64 0, .int .i64 0, .int .u64 0, .slice none 0 0] 36))
  have HK0 := Lib.hid (Blk.new w 36 #[.int .i64 0, .int .i64 0, .int .u64 0, .slice none 0 0])
  generalize w.alloc _ = W0 at HB0 HK0 ⊢
  refine (r_uvarint_any A n c l _ B (by exact HR.out.below (HB0.out.mono hB)) hn).mono ?_
  rw [HU.out]
  rintro x W ⟨rfl, rfl⟩
  have z0 := HK0.out.frozen 0
  have z1 := HK0.out.frozen 1
  have z2 := HK0.out.frozen 2
  have z3 := HK0.out.frozen 3
  have k0 : W0.cell? ⟨w.heap.size, 0, none⟩ = some (.int .i64 0) := HK0.out.cell 0
  have k1 : W0.cell? ⟨w.heap.size, 1, none⟩ = some (.int .i64 0) := HK0.out.cell 1
  have k2 : W0.cell? ⟨w.heap.size, 2, none⟩ = some (.int .u64 0) := HK0.out.cell 2
  have k3 : W0.cell? ⟨w.heap.size, 3, none⟩ = some (.slice none 0 0) := HK0.out.cell 3
  have hs0 := HK0.out.lt
  simp only [ruRes]
  go_wp2_with fail
  refine (r_untag_any t _ htb).mono ?_
  rw [HT.out]
  rintro x W ⟨rfl, rfl⟩
  simp only [rtRes]
  go_wp2_with fail
  have HB1 := Lib.hid (HB0.out.alloc HB0.out.size (.cells #[.int .i64 (f : Int), .int .i64 2, .int .u64 0, .slice none 0 0] 36))
  have HK1 := Lib.hid (HK0.out.alloc (.cells #[.int .i64 (f : Int), .int .i64 2, .int .u64 0, .slice none 0 0] 36))
  have HP1 := Lib.hid (Blk.new W0 36 #[.int .i64 (f : Int), .int .i64 2, .int .u64 0, .slice none 0 0])
  have hsz : (W0.alloc (.cells #[.int .i64 (f : Int), .int .i64 2, .int .u64 0, .slice none 0 0] 36)).heap.size = W0.heap.size + 1 := by simp
  clear z0 z1 z2 z3 k0 k1 k2 k3 HK0
  generalize W0.alloc _ = W1 at HB1 HK1 HP1 hsz ⊢
  have hg13 : W0.heap.size < W1.heap.size := by omega
  clear hsz
  generalize W0.heap.size = gr at *
  have y2 := HP1.out.frozen 2
  have c0 : W1.cell? ⟨gr, 0, none⟩ = some (.int .i64 (f : Int)) := HP1.out.cell 0
  have c1 : W1.cell? ⟨gr, 1, none⟩ = some (.int .i64 2) := HP1.out.cell 1
  have c2 : W1.cell? ⟨gr, 2, none⟩ = some (.int .u64 0) := HP1.out.cell 2
  have c3 : W1.cell? ⟨gr, 3, none⟩ = some (.slice none 0 0) := HP1.out.cell 3
  refine (r_uvarint_any A' (n - m) (c - m) (l.drop m) _ B (by exact HA.out.below (HB1.out.mono hB)) (by omega)).mono ?_
  rw [HX.out]
  rintro y W ⟨rfl, rfl⟩
  simp only [ruRes]
  have z0 := HK1.out.frozen 0
  have z1 := HK1.out.frozen 1
  have z2 := HK1.out.frozen 2
  have z3 := HK1.out.frozen 3
  have k0 : W1.cell? ⟨w.heap.size, 0, none⟩ = some (.int .i64 0) := HK1.out.cell 0
  have k1 : W1.cell? ⟨w.heap.size, 1, none⟩ = some (.int .i64 0) := HK1.out.cell 1
  have k2 : W1.cell? ⟨w.heap.size, 2, none⟩ = some (.int .u64 0) := HK1.out.cell 2
  have k3 : W1.cell? ⟨w.heap.size, 3, none⟩ = some (.slice none 0 0) := HK1.out.cell 3
  go_wp2
  refine bodyPost_ret (results_next _ _ w.heap.size _ _ _ _ rfl ((((HK1.out.put 0 _).put 1 _).put 2 _).put 3 _)) rfl ?_
  rw [nextD_err HG.out (by decide) (by rw [way_eq]; exact leaf2_err _ HX.out)]
  exact ⟨rfl, (((HB1.out.setCell (Nat.le_refl _) _).setCell (Nat.le_refl _) _).setCell (Nat.le_refl _) _).setCell (Nat.le_refl _) _⟩

set_option maxHeartbeats 4000000 in
set_option maxRecDepth 100000 in
theorem r_next_k2s (d dep : Nat) (A : Option Addr) (n c : Nat) (l : List UInt8) (w : World) (B : Nat) (hr : Rd w B A n l) (hB : B ≤ w.heap.size) (hn : n ≤ 1000000000000) (hnc : n ≤ c) (t m f : Nat) (hu : uvar l = .ok (t, m)) (ht : untag t = .ok (f, 2)) (u j : Nat) (hx : uvar (l.drop m) = .ok (u, j)) (hle : n - (m + j) < u) :
    Calls Tryd.prog 32 #[.slice A n c, .int .i64 (dep : Int)] w (RPost w (nextD d l)) := by
  have HR := Lib.hid hr
  have HLN := Lib.hid hr.len
  clear hr
  have hb := uvar_ok hu
  have htb : t < 18446744073709551616 := hb.2.2.2
  have hm : m ≤ n := by have := hb.2.1; rw [HLN.out] at this; exact this
  have hm10 : m ≤ 10 := hb.2.2.1
  have HG := Lib.hid (tagOf_ok hu ht)
  have HU := Lib.hid hu
  have HT := Lib.hid ht
  clear hu ht hb
  have hj := uvar_ok hx
  have hj1 : j ≤ 10 := hj.2.2.1
  have hmj : m + j ≤ n := by have := hj.2.1; rw [List.length_drop, HLN.out] at this; omega
  have hub : u < 18446744073709551616 := hj.2.2.2
  have HX := Lib.hid hx
  clear hx hj
  have e1 : wrap64 ((n : Int) - ((m : Int) + (j : Int))) = (n : Int) - ((m : Int) + (j : Int)) := by unfold wrap64; omega
  have e2 : IntKind.u64.wrap ((n : Int) - ((m : Int) + (j : Int))) = (n : Int) - ((m : Int) + (j : Int)) := by rw [IntKind.wrap_u64]; omega
  have e3 : ((n : Int) - ((m : Int) + (j : Int))) % 18446744073709551616 = (n : Int) - ((m : Int) + (j : Int)) := by omega
  have e4 : (n : Int) - ((m : Int) + (j : Int)) < (u : Int) := by omega
  obtain ⟨A', hA', hsl⟩ := cut_from (c := c) byteP HR.out (m : Int) (k := m) rfl hm hnc
  have HA := Lib.hid hA'
  clear hA'
  go_enter Tryd.func32, Tryd.ntmps32
  go_wp2_with fail
  have HB0 := Lib.hid ((Below.refl w.heap.size w).alloc (Nat.le_refl _) (.cells #[.int .i64 0, .int .i64 0, .int .u64 0, .slice none 0 0] 36))
  have HK0 := Lib.hid (Blk.new w 36 #[.int .i64 0, .int .i64 0, .int .u64 0, .slice none 0 0])
  generalize w.alloc _ = W0 at HB0 HK0 ⊢
  refine (r_uvarint_any A n c l _ B (by exact HR.out.below (HB0.out.mono hB)) hn).mono ?_
  rw [HU.out]
  rintro x W ⟨rfl, rfl⟩
  have z0 := HK0.out.frozen 0
  have z1 := HK0.out.frozen 1
  have z2 := HK0.out.frozen 2
  have z3 := HK0.out.frozen 3
  have k0 : W0.cell? ⟨w.heap.size, 0, none⟩ = some (.int .i64 0) := HK0.out.cell 0
  have k1 : W0.cell? ⟨w.heap.size, 1, none⟩ = some (.int .i64 0) := HK0.out.cell 1
  have k2 : W0.cell? ⟨w.heap.size, 2, none⟩ = some (.int .u64 0) := HK0.out.cell 2
  have k3 : W0.cell? ⟨w.heap.size, 3, none⟩ = some (.slice none 0 0) := HK0.out.cell 3
  have hs0 := HK0.out.lt
  simp only [ruRes]
  go_wp2_with fail
  refine (r_untag_any t _ htb).mono ?_
  rw [HT.out]
  rintro x W ⟨rfl, rfl⟩
  simp only [rtRes]
  go_wp2_with fail
  have HB1 := Lib.hid (HB0.out.alloc HB0.out.size (.cells #[.int .i64 (f : Int), .int .i64 2, .int .u64 0, .slice none 0 0] 36))
  have HK1 := Lib.hid (HK0.out.alloc (.cells #[.int .i64 (f : Int), .int .i64 2, .int .u64 0, .slice none 0 0] 36))
  have HP1 := Lib.hid (Blk.new W0 36 #[.int .i64 (f : Int), .int .i64 2, .int .u64 0, .slice none 0 0])
  have hsz : (W0.alloc (.cells #[.int .i64 (f : Int), .int .i64 2, .int .u64 0, .slice none 0 0] 36)).heap.size = W0.heap.size + 1 := by simp
  clear z0 z1 z2 z3 k0 k1 k2 k3 HK0
  generalize W0.alloc _ = W1 at HB1 HK1 HP1 hsz ⊢
  have hg13 : W0.heap.size < W1.heap.size := by omega
  clear hsz
  generalize W0.heap.size = gr at *
  have y2 := HP1.out.frozen 2
  have c0 : W1.cell? ⟨gr, 0, none⟩ = some (.int .i64 (f : Int)) := HP1.out.cell 0
  have c1 : W1.cell? ⟨gr, 1, none⟩ = some (.int .i64 2) := HP1.out.cell 1
  have c2 : W1.cell? ⟨gr, 2, none⟩ = some (.int .u64 0) := HP1.out.cell 2
  have c3 : W1.cell? ⟨gr, 3, none⟩ = some (.slice none 0 0) := HP1.out.cell 3
  refine (r_uvarint_any A' (n - m) (c - m) (l.drop m) _ B (by exact HA.out.below (HB1.out.mono hB)) (by omega)).mono ?_
  rw [HX.out]
  rintro y W ⟨rfl, rfl⟩
  simp only [ruRes]
  have z0 := HK1.out.frozen 0
  have z1 := HK1.out.frozen 1
  have z2 := HK1.out.frozen 2
  have z3 := HK1.out.frozen 3
  have k0 : W1.cell? ⟨w.heap.size, 0, none⟩ = some (.int .i64 0) := HK1.out.cell 0
  have k1 : W1.cell? ⟨w.heap.size, 1, none⟩ = some (.int .i64 0) := HK1.out.cell 1
  have k2 : W1.cell? ⟨w.heap.size, 2, none⟩ = some (.int .u64 0) := HK1.out.cell 2
  have k3 : W1.cell? ⟨w.heap.size, 3, none⟩ = some (.slice none 0 0) := HK1.out.cell 3
  go_wp2
  refine bodyPost_ret (results_next _ _ w.heap.size _ _ _ _ rfl ((((HK1.out.put 0 _).put 1 _).put 2 _).put 3 _)) rfl ?_
  rw [nextD_err HG.out (by decide) (by rw [way_eq]; exact leaf2_end _ HX.out (by rw [List.length_drop, HLN.out]; omega))]
  exact ⟨rfl, (((HB1.out.setCell (Nat.le_refl _) _).setCell (Nat.le_refl _) _).setCell (Nat.le_refl _) _).setCell (Nat.le_refl _) _⟩

set_option maxHeartbeats 4000000 in
set_option maxRecDepth 100000 in
theorem r_next_k2 (d dep : Nat) (A : Option Addr) (n c : Nat) (l : List UInt8) (w : World) (B : Nat) (hr : Rd w B A n l) (hB : B ≤ w.heap.size) (hn : n ≤ 1000000000000) (hnc : n ≤ c) (t m f : Nat) (hu : uvar l = .ok (t, m)) (ht : untag t = .ok (f, 2)) (u j : Nat) (hx : uvar (l.drop m) = .ok (u, j)) (hle : u ≤ n - (m + j)) :
    Calls Tryd.prog 32 #[.slice A n c, .int .i64 (dep : Int)] w (RPost w (nextD d l)) := by
  have HR := Lib.hid hr
  have HLN := Lib.hid hr.len
  clear hr
  have hb := uvar_ok hu
  have htb : t < 18446744073709551616 := hb.2.2.2
  have hm : m ≤ n := by have := hb.2.1; rw [HLN.out] at this; exact this
  have hm10 : m ≤ 10 := hb.2.2.1
  have HG := Lib.hid (tagOf_ok hu ht)
  have HU := Lib.hid hu
  have HT := Lib.hid ht
  clear hu ht hb
  have hj := uvar_ok hx
  have hj1 : j ≤ 10 := hj.2.2.1
  have hmj : m + j ≤ n := by have := hj.2.1; rw [List.length_drop, HLN.out] at this; omega
  have hub : u < 18446744073709551616 := hj.2.2.2
  have HX := Lib.hid hx
  clear hx hj
  have e1 : wrap64 ((n : Int) - ((m : Int) + (j : Int))) = (n : Int) - ((m : Int) + (j : Int)) := by unfold wrap64; omega
  have e2 : IntKind.u64.wrap ((n : Int) - ((m : Int) + (j : Int))) = (n : Int) - ((m : Int) + (j : Int)) := by rw [IntKind.wrap_u64]; omega
  have e3 : ((n : Int) - ((m : Int) + (j : Int))) % 18446744073709551616 = (n : Int) - ((m : Int) + (j : Int)) := by omega
  have e4 : ¬ (n : Int) - ((m : Int) + (j : Int)) < (u : Int) := by omega
  obtain ⟨A', hA', hsl⟩ := cut_from (c := c) byteP HR.out (m : Int) (k := m) rfl hm hnc
  have HA := Lib.hid hA'
  clear hA'
  have hu2 : u ≤ 1000000000000 := by omega
  obtain ⟨A2, hA2, hs2⟩ := cut_sub (c := c) byteP HR.out ((m : Int) + (j : Int)) ((m : Int) + (j : Int) + (u : Int)) (k := m + j) (q := m + j + u) (m := u) (by omega) (by omega) rfl (by omega) hnc
  have HA2 := Lib.hid hA2
  clear hA2
  go_enter Tryd.func32, Tryd.ntmps32
  go_wp2_with fail
  have HB0 := Lib.hid ((Below.refl w.heap.size w).alloc (Nat.le_refl _) (.cells #[.int .i64 0, .int .i64 0, .int .u64 0, .slice none 0 0] 36))
  have HK0 := Lib.hid (Blk.new w 36 #[.int .i64 0, .int .i64 0, .int .u64 0, .slice none 0 0])
  generalize w.alloc _ = W0 at HB0 HK0 ⊢
  refine (r_uvarint_any A n c l _ B (by exact HR.out.below (HB0.out.mono hB)) hn).mono ?_
  rw [HU.out]
  rintro x W ⟨rfl, rfl⟩
  have z0 := HK0.out.frozen 0
  have z1 := HK0.out.frozen 1
  have z2 := HK0.out.frozen 2
  have z3 := HK0.out.frozen 3
  have k0 : W0.cell? ⟨w.heap.size, 0, none⟩ = some (.int .i64 0) := HK0.out.cell 0
  have k1 : W0.cell? ⟨w.heap.size, 1, none⟩ = some (.int .i64 0) := HK0.out.cell 1
  have k2 : W0.cell? ⟨w.heap.size, 2, none⟩ = some (.int .u64 0) := HK0.out.cell 2
  have k3 : W0.cell? ⟨w.heap.size, 3, none⟩ = some (.slice none 0 0) := HK0.out.cell 3
  have hs0 := HK0.out.lt
  simp only [ruRes]
  go_wp2_with fail
  refine (r_untag_any t _ htb).mono ?_
  rw [HT.out]
  rintro x W ⟨rfl, rfl⟩
  simp only [rtRes]
  go_wp2_with fail
  have HB1 := Lib.hid (HB0.out.alloc HB0.out.size (.cells #[.int .i64 (f : Int), .int .i64 2, .int .u64 0, .slice none 0 0] 36))
  have HK1 := Lib.hid (HK0.out.alloc (.cells #[.int .i64 (f : Int), .int .i64 2, .int .u64 0, .slice none 0 0] 36))
  have HP1 := Lib.hid (Blk.new W0 36 #[.int .i64 (f : Int), .int .i64 2, .int .u64 0, .slice none 0 0])
  have hsz : (W0.alloc (.cells #[.int .i64 (f : Int), .int .i64 2, .int .u64 0, .slice none 0 0] 36)).heap.size = W0.heap.size + 1 := by simp
  clear z0 z1 z2 z3 k0 k1 k2 k3 HK0
  generalize W0.alloc _ = W1 at HB1 HK1 HP1 hsz ⊢
  have hg13 : W0.heap.size < W1.heap.size := by omega
  clear hsz
  generalize W0.heap.size = gr at *
  have y2 := HP1.out.frozen 2
  have c0 : W1.cell? ⟨gr, 0, none⟩ = some (.int .i64 (f : Int)) := HP1.out.cell 0
  have c1 : W1.cell? ⟨gr, 1, none⟩ = some (.int .i64 2) := HP1.out.cell 1
  have c2 : W1.cell? ⟨gr, 2, none⟩ = some (.int .u64 0) := HP1.out.cell 2
  have c3 : W1.cell? ⟨gr, 3, none⟩ = some (.slice none 0 0) := HP1.out.cell 3
  refine (r_uvarint_any A' (n - m) (c - m) (l.drop m) _ B (by exact HA.out.below (HB1.out.mono hB)) (by omega)).mono ?_
  rw [HX.out]
  rintro y W ⟨rfl, rfl⟩
  simp only [ruRes]
  have z0 := HK1.out.frozen 0
  have z1 := HK1.out.frozen 1
  have z2 := HK1.out.frozen 2
  have z3 := HK1.out.frozen 3
  have k0 : W1.cell? ⟨w.heap.size, 0, none⟩ = some (.int .i64 0) := HK1.out.cell 0
  have k1 : W1.cell? ⟨w.heap.size, 1, none⟩ = some (.int .i64 0) := HK1.out.cell 1
  have k2 : W1.cell? ⟨w.heap.size, 2, none⟩ = some (.int .u64 0) := HK1.out.cell 2
  have k3 : W1.cell? ⟨w.heap.size, 3, none⟩ = some (.slice none 0 0) := HK1.out.cell 3
  go_wp2_with fail
  refine (bytes_any A2 u (c - (m + j)) ((l.drop (m + j)).take u) _ B (by exact HA2.out.below (HB1.out.mono hB)) (Nat.le_trans hB HB1.out.size) hu2).mono ?_
  rintro y W2 ⟨rfl, ho, hb2⟩
  have hgo : W1.heap.size < W2.heap.size := (ho.lt rfl).1
  have HO := Lib.hid ho
  have HB2 := Lib.hid (HB1.out.trans (hb2.mono HB1.out.size))
  have HK2 := Lib.hid (HK1.out.below hb2 HK1.out.lt)
  have HP2 := Lib.hid (HP1.out.below hb2 HP1.out.lt)
  clear z0 z1 z2 z3 k0 k1 k2 k3 y2 c0 c1 c2 c3 HB1 HK1 HP1 hb2 ho hsl hs2 e1 e2 e3 e4 HA HA2
  have hs12 : w.heap.size < W1.heap.size := by omega
  generalize W1.heap.size = go at *
  have z0 := HK2.out.frozen 0
  have z1 := HK2.out.frozen 1
  have z2 := HK2.out.frozen 2
  have z3 := HK2.out.frozen 3
  have k0 : W2.cell? ⟨w.heap.size, 0, none⟩ = some (.int .i64 0) := HK2.out.cell 0
  have k1 : W2.cell? ⟨w.heap.size, 1, none⟩ = some (.int .i64 0) := HK2.out.cell 1
  have k2 : W2.cell? ⟨w.heap.size, 2, none⟩ = some (.int .u64 0) := HK2.out.cell 2
  have k3 : W2.cell? ⟨w.heap.size, 3, none⟩ = some (.slice none 0 0) := HK2.out.cell 3
  have y3 := HP2.out.frozen 3
  have c0 : W2.cell? ⟨gr, 0, none⟩ = some (.int .i64 (f : Int)) := HP2.out.cell 0
  have c1 : W2.cell? ⟨gr, 1, none⟩ = some (.int .i64 2) := HP2.out.cell 1
  have c2 : W2.cell? ⟨gr, 2, none⟩ = some (.int .u64 0) := HP2.out.cell 2
  have c3 : W2.cell? ⟨gr, 3, none⟩ = some (.slice none 0 0) := HP2.out.cell 3
  have ne1 : ¬ gr = w.heap.size := by omega
  have ne2 : ¬ w.heap.size = gr := by omega
  have hgl : gr < W2.heap.size := by omega
  have hgl2 : w.heap.size < W2.heap.size := by omega
  go_wp2
  refine bodyPost_ret (results_next _ _ w.heap.size _ _ _ _ rfl (((((HK2.out.far (by simp; omega) _).put 0 _).put 1 _).put 2 _).put 3 _)) rfl ?_
  rw [nextD_ok HG.out (by decide) (by rw [way_eq]; exact leaf2_ok _ HX.out (by rw [List.length_drop, HLN.out]; omega))]
  have hd : List.drop j (List.drop m l) = l.drop (m + j) := by rw [List.drop_drop]
  have hol : ((l.drop (m + j)).take u).length = u := by rw [List.length_take, List.length_drop, HLN.out]; omega
  refine ⟨.slice (some ⟨go, 0, none⟩) u u, by simp [recCells]; omega, ?_, ((((HB2.out.setCell (by simp; omega) _).setCell (Nat.le_refl _) _).setCell (Nat.le_refl _) _).setCell (Nat.le_refl _) _).setCell (Nat.le_refl _) _⟩
  simp only [hd, hol]
  refine Ow.base ?_ (show w.heap.size ≤ go by omega)
  refine Ow.grown (row := some w.heap.size) ?_ (grown_setCell (grown_setCell (grown_setCell (grown_setCell (grown_of_below (Below.refl _ _) _) 0 _) 1 _) 2 _) 3 _) (Or.inr (by simp [Value.ownBlock]; omega))
  exact HO.out.grown (row := some gr) (grown_setCell (grown_of_below (Below.refl _ _) _) 3 _) (Or.inr (by simp [Value.ownBlock]; omega))

theorem next_of_grp (d dep : Nat) (hg : GrpC d dep) : NextC d dep := by
  intro A n c l w B hr hB hn hnc
  rcases hu : uvar l with k | ⟨t, m⟩
  · exact r_next_e1 d dep A n c l w B hr hB hn hnc k hu
  rcases ht : untag t with k | ⟨f, k⟩
  · exact r_next_e2 d dep A n c l w B hr hB hn hnc t m k hu ht
  have hk := (tagOf_le (tagOf_ok hu ht)).2.2.1
  have hk' : k = 0 ∨ k = 1 ∨ k = 2 ∨ k = 3 ∨ k = 4 ∨ k = 5 := by omega
  rcases hk' with rfl | rfl | rfl | rfl | rfl | rfl
  · rcases hx : uvar (l.drop m) with x | ⟨u, j⟩
    · exact r_next_k0e d dep A n c l w B hr hB hn hnc t m f hu ht x (by have := uvarF_err hx; omega) hx
    · exact r_next_k0 d dep A n c l w B hr hB hn hnc t m f hu ht u j hx
  · rcases hx : fixd 8 (l.drop m) with x | ⟨u, j⟩
    · exact r_next_k1e d dep A n c l w B hr hB hn hnc t m f hu ht x (by unfold fixd at hx; split at hx <;> cases hx; omega) hx
    · exact r_next_k1 d dep A n c l w B hr hB hn hnc t m f hu ht u j hx
  · rcases hx : uvar (l.drop m) with x | ⟨u, j⟩
    · exact r_next_k2e d dep A n c l w B hr hB hn hnc t m f hu ht x hx
    · by_cases hle : u ≤ n - (m + j)
      · exact r_next_k2 d dep A n c l w B hr hB hn hnc t m f hu ht u j hx hle
      · exact r_next_k2s d dep A n c l w B hr hB hn hnc t m f hu ht u j hx (by omega)
  · exact r_next_k3 d dep A n c l w B hr hB hn hnc t m f hu ht hg
  · exact r_next_k4 d dep A n c l w B hr hB hn hnc t m f hu ht
  · rcases hx : fixd 4 (l.drop m) with x | ⟨u, j⟩
    · exact r_next_k5e d dep A n c l w B hr hB hn hnc t m f hu ht x (by unfold fixd at hx; split at hx <;> cases hx; omega) hx
    · exact r_next_k5 d dep A n c l w B hr hB hn hnc t m f hu ht u j hx
end Go.Proofs.YtnahkhiomnkbcaaDoor
