/-
  Contract: stamp.Parse.
-/
import Derived.Test.YtacmlpgakibdgaaDoorRd2
namespace Go.Proofs.YtacmlpgakibdgaaDoor
open Go.RowKit Go.Own Go.Own.Dig Go.Own.Alg

section
variable (g : Nat) (x : St) (w : World)
theorem take_st (p : List UInt8) (hb : RB w g x) : Calls Tryd.prog 31 #[.pointer (some ⟨g, 0, none⟩), .string ⟨p.toArray⟩] w fun e w' => e = .returned (.bool (Lib.hasPrefix x.1 p)) ∧ RdPost g (Lib.trimPrefix x.1 p, x.2) w w' := take_any g x.1 p x.2 w hb
theorem must_st (p : List UInt8) (hb : RB w g x) : Calls Tryd.prog 28 #[.pointer (some ⟨g, 0, none⟩), .string ⟨p.toArray⟩] w fun e w' => (∃ v, e = .returned v) ∧ RdPost g (rMust p x) w w' := must_any g x.1 p x.2 w hb
theorem two_st (hb : RB w g x) (hl : x.1.length ≤ 1000) : Calls Tryd.prog 29 #[.pointer (some ⟨g, 0, none⟩)] w fun e w' => e = .returned (.int .i64 ((rTwo x).1 : Int)) ∧ RdPost g (rTwo x).2 w w' := two_any g x.1 x.2 w hb (by omega)
theorem frac_st (hb : RB w g x) (hl : x.1.length ≤ 1000) : Calls Tryd.prog 30 #[.pointer (some ⟨g, 0, none⟩)] w fun e w' => e = .returned (.int .i64 ((rFrac x).1 : Int)) ∧ RdPost g (rFrac x).2 w w' := rfrac_any g x.1 x.2 w hb (by omega)
end

/-- Parse's own memory: what it answers, the reader, the date. -/
structure PW (w W : World) (x : St) (y m d h i e : Nat) : Prop where
  below : Below w.heap.size w W
  res : Blk W w.heap.size 24 #[.int .i64 0, .int .i64 0]
  rd : RB W (w.heap.size + 1) x
  date : Blk W (w.heap.size + 1 + 1) 3 (sixOf y m d h i e)
section
variable {w W W' : World} {x x' : St} {y m d h i e : Nat}
theorem PW.step (p : PW w W x y m d h i e) (q : RdPost (w.heap.size + 1) x' W W') : PW w W' x' y m d h i e :=
  ⟨p.below.grown q.2 p.below.size (fun g e => by cases e; omega), p.res.grown q.2 (by simp), q.1, p.date.grown q.2 (by simp)⟩
theorem PW.old (p : PW w W x y m d h i e) (hb : Below W.heap.size W W') : PW w W' x y m d h i e :=
  ⟨p.below.trans (hb.mono p.below.size), p.res.below hb p.res.lt, Blk.below p.rd hb (Blk.lt p.rd), p.date.below hb p.date.lt⟩
theorem PW.put (p : PW w W x y m d h i e) (k : Nat) (v : Value) {y' m' d' h' i' e' : Nat} (hs : (sixOf y m d h i e).setIfInBounds k v = sixOf y' m' d' h' i' e') : PW w (W.setCell ⟨w.heap.size + 1 + 1, k, none⟩ v) x y' m' d' h' i' e' :=
  ⟨p.below.setCell (by simp; omega) _, p.res.far (by simp; omega) _, Blk.far p.rd (by simp) _, by rw [← hs]; exact p.date.put k v⟩
theorem PW.bad (p : PW w W x y m d h i e) (b : Bool) : PW w (W.setCell ⟨w.heap.size + 1, 1, none⟩ (.bool b)) (x.1, b) y m d h i e := p.step (p.rd.put1 b)
theorem PW.cells (p : PW w W x y m d h i e) : W.cell? ⟨w.heap.size + 1, 0, none⟩ = some (.string ⟨x.1.toArray⟩) ∧ W.cell? ⟨w.heap.size + 1, 1, none⟩ = some (.bool x.2) ∧ W.frozen? ⟨w.heap.size + 1, 0, none⟩ = false ∧ W.frozen? ⟨w.heap.size + 1, 1, none⟩ = false := p.rd.cells
theorem PW.dates (p : PW w W x y m d h i e) : W.cell? ⟨w.heap.size + 1 + 1, 0, none⟩ = some (.int .i64 y) ∧ W.cell? ⟨w.heap.size + 1 + 1, 1, none⟩ = some (.int .i64 m) ∧ W.cell? ⟨w.heap.size + 1 + 1, 2, none⟩ = some (.int .i64 d) ∧ W.cell? ⟨w.heap.size + 1 + 1, 3, none⟩ = some (.int .i64 h) ∧ W.cell? ⟨w.heap.size + 1 + 1, 4, none⟩ = some (.int .i64 i) ∧ W.cell? ⟨w.heap.size + 1 + 1, 5, none⟩ = some (.int .i64 e) := six_of p.date
theorem PW.thaw (p : PW w W x y m d h i e) (k : Nat) : W.frozen? ⟨w.heap.size + 1 + 1, k, none⟩ = false := p.date.frozen k
theorem PW.ans (p : PW w W x y m d h i e) : W.cell? ⟨w.heap.size, 0, none⟩ = some (.int .i64 0) ∧ W.cell? ⟨w.heap.size, 1, none⟩ = some (.int .i64 0) ∧ W.frozen? ⟨w.heap.size, 0, none⟩ = false ∧ W.frozen? ⟨w.heap.size, 1, none⟩ = false :=
  ⟨p.res.cell 0, p.res.cell 1, p.res.frozen 0, p.res.frozen 1⟩
end
def signT : Array Value := #[.string ⟨#[45]⟩, .string ⟨#[45]⟩, .string ⟨#[84]⟩, .string ⟨#[58]⟩, .string ⟨#[58]⟩]

/-- What the parts of a text come to. -/
structure Front (s : List UInt8) (Y M D H I E N : Nat) (x0 x1 x2 x3 x4 x5 x6 : St) : Prop where
  h0 : (rDig 4 4 (s, false)).1 = Y ∧ (rDig 4 4 (s, false)).2.2 = x0
  h1 : rTwo (rMust [45] x0) = (M, x1)
  h2 : rTwo (rMust [45] x1) = (D, x2)
  h3 : rTwo (rMust [84] x2) = (H, x3)
  h4 : rTwo (rMust [58] x3) = (I, x4)
  h5 : rTwo (rMust [58] x4) = (E, x5)
  h6 : rFrac x5 = (N, x6)
  bY : Y ≤ 9999
  bM : M < 100
  bD : D < 100
  bH : H < 100
  bI : I < 100
  bE : E < 100
  bN : N < 1000000000
  l0 : x0.1.length ≤ s.length
  l1 : x1.1.length ≤ s.length
  l2 : x2.1.length ≤ s.length
  l3 : x3.1.length ≤ s.length
  l4 : x4.1.length ≤ s.length
  l5 : x5.1.length ≤ s.length
  l6 : x6.1.length ≤ s.length
theorem part_len (c : UInt8) (x y : St) (v n : Nat) (h : rTwo (rMust [c] x) = (v, y)) (hx : x.1.length ≤ n) : y.1.length ≤ n ∧ v < 100 := by
  have h1 := two_len (rMust [c] x)
  have h2 := must_len [c] x
  have h3 := two_bd (rMust [c] x)
  rw [h] at h1 h3
  exact ⟨Nat.le_trans h1 (Nat.le_trans h2 hx), h3⟩
theorem front_of (s : List UInt8) : ∃ Y M D H I E N x0 x1 x2 x3 x4 x5 x6, Front s Y M D H I E N x0 x1 x2 x3 x4 x5 x6 := by
  obtain ⟨Y, hY⟩ : ∃ Y, (rDig 4 4 (s, false)).1 = Y := ⟨_, rfl⟩
  obtain ⟨x0, hx0⟩ : ∃ x0, (rDig 4 4 (s, false)).2.2 = x0 := ⟨_, rfl⟩
  have l0 : x0.1.length ≤ s.length := by rw [← hx0]; exact dig_len 4 4 (s, false)
  have bY : Y ≤ 9999 := by
    have h := dig_bd 4 4 (s, false)
    have := pow_le_of _ _ h.2
    rw [← hY]; omega
  obtain ⟨M, x1, h1⟩ : ∃ v y, rTwo (rMust [45] x0) = (v, y) := ⟨_, _, rfl⟩
  obtain ⟨l1, bM⟩ := part_len _ _ _ _ _ h1 l0
  obtain ⟨D, x2, h2⟩ : ∃ v y, rTwo (rMust [45] x1) = (v, y) := ⟨_, _, rfl⟩
  obtain ⟨l2, bD⟩ := part_len _ _ _ _ _ h2 l1
  obtain ⟨H, x3, h3⟩ : ∃ v y, rTwo (rMust [84] x2) = (v, y) := ⟨_, _, rfl⟩
  obtain ⟨l3, bH⟩ := part_len _ _ _ _ _ h3 l2
  obtain ⟨I, x4, h4⟩ : ∃ v y, rTwo (rMust [58] x3) = (v, y) := ⟨_, _, rfl⟩
  obtain ⟨l4, bI⟩ := part_len _ _ _ _ _ h4 l3
  obtain ⟨E, x5, h5⟩ : ∃ v y, rTwo (rMust [58] x4) = (v, y) := ⟨_, _, rfl⟩
  obtain ⟨l5, bE⟩ := part_len _ _ _ _ _ h5 l4
  obtain ⟨N, x6, h6⟩ : ∃ v y, rFrac x5 = (v, y) := ⟨_, _, rfl⟩
  have l6 : x6.1.length ≤ s.length := by have := frac_len x5; rw [h6] at this; exact Nat.le_trans this l5
  have bN : N < 1000000000 := by have := frac_bd x5; rw [h6] at this; exact this
  exact ⟨Y, M, D, H, I, E, N, x0, x1, x2, x3, x4, x5, x6, ⟨hY, hx0⟩, h1, h2, h3, h4, h5, h6, bY, bM, bD, bH, bI, bE, bN, l0, l1, l2, l3, l4, l5, l6⟩
theorem raw_front {s : List UInt8} {Y M D H I E N : Nat} {x0 x1 x2 x3 x4 x5 x6 : St} (f : Front s Y M D H I E N x0 x1 x2 x3 x4 x5 x6) {off : Int} {z : St} (hz : rZone x6 = (off, z)) : rRaw s = ⟨Y, M, D, H, I, E, N, off, z⟩ := by
  obtain ⟨⟨hY, hx0⟩, h1, h2, h3, h4, h5, h6, _⟩ := f
  unfold rRaw rPart
  simp only [hY, hx0, h1, h2, h3, h4, h5, h6, hz]
theorem parse_front {s : List UInt8} {Y M D H I E N : Nat} {x0 x1 x2 x3 x4 x5 x6 : St} (f : Front s Y M D H I E N x0 x1 x2 x3 x4 x5 x6) {off : Int} {lz : List UInt8} {bz : Bool} (hz : rZone x6 = (off, (lz, bz))) :
    parseT s = match ofD Y M D H I E with | none => none | some t => if bz = false ∧ lz = [] ∧ okT (t + off) N = true then some (t + off, (N : Int)) else none := by
  unfold parseT
  rw [raw_front f hz]
  rfl

theorem arr_gen (t : Array Value) (n : Nat) (h : t.size = n) : t = ((List.range n).map (fun k => t.getD k undef)).toArray := by
  apply Array.ext
  · simp [h]
  · intro i h1 h2
    simp [Array.getD, h1]
set_option maxRecDepth 100000 in
theorem arr121 (t : Array Value) (h : t.size = 121) : t = (t.getD 0 undef :: t.getD 1 undef :: t.getD 2 undef :: t.getD 3 undef :: t.getD 4 undef :: t.getD 5 undef :: t.getD 6 undef :: t.getD 7 undef :: t.getD 8 undef :: t.getD 9 undef :: t.getD 10 undef :: t.getD 11 undef :: t.getD 12 undef :: t.getD 13 undef :: t.getD 14 undef :: t.getD 15 undef :: t.getD 16 undef :: t.getD 17 undef :: t.getD 18 undef :: t.getD 19 undef :: t.getD 20 undef :: t.getD 21 undef :: t.getD 22 undef :: t.getD 23 undef :: t.getD 24 undef :: t.getD 25 undef :: t.getD 26 undef :: t.getD 27 undef :: t.getD 28 undef :: t.getD 29 undef :: t.getD 30 undef :: t.getD 31 undef :: t.getD 32 undef :: t.getD 33 undef :: t.getD 34 undef :: t.getD 35 undef :: t.getD 36 undef :: t.getD 37 undef :: t.getD 38 undef :: t.getD 39 undef :: t.getD 40 undef :: t.getD 41 undef :: t.getD 42 undef :: t.getD 43 undef :: t.getD 44 undef :: t.getD 45 undef :: t.getD 46 undef :: t.getD 47 undef :: t.getD 48 undef :: t.getD 49 undef :: t.getD 50 undef :: t.getD 51 undef :: t.getD 52 undef :: t.getD 53 undef :: t.getD 54 undef :: t.getD 55 undef :: t.getD 56 undef :: t.getD 57 undef :: t.getD 58 undef :: t.getD 59 undef :: t.getD 60 undef :: t.getD 61 undef :: t.getD 62 undef :: t.getD 63 undef :: t.getD 64 undef :: t.getD 65 undef :: t.getD 66 undef :: t.getD 67 undef :: t.getD 68 undef :: t.getD 69 undef :: t.getD 70 undef :: t.getD 71 undef :: t.getD 72 undef :: t.getD 73 undef :: t.getD 74 undef :: t.getD 75 undef :: t.getD 76 undef :: t.getD 77 undef :: t.getD 78 undef :: t.getD 79 undef :: t.getD 80 undef :: t.getD 81 undef :: t.getD 82 undef :: t.getD 83 undef :: t.getD 84 undef :: t.getD 85 undef :: t.getD 86 undef :: t.getD 87 undef :: t.getD 88 undef :: t.getD 89 undef :: t.getD 90 undef :: t.getD 91 undef :: t.getD 92 undef :: t.getD 93 undef :: t.getD 94 undef :: t.getD 95 undef :: t.getD 96 undef :: t.getD 97 undef :: t.getD 98 undef :: t.getD 99 undef :: t.getD 100 undef :: t.getD 101 undef :: t.getD 102 undef :: t.getD 103 undef :: t.getD 104 undef :: t.getD 105 undef :: t.getD 106 undef :: t.getD 107 undef :: t.getD 108 undef :: t.getD 109 undef :: t.getD 110 undef :: t.getD 111 undef :: t.getD 112 undef :: t.getD 113 undef :: t.getD 114 undef :: t.getD 115 undef :: t.getD 116 undef :: t.getD 117 undef :: t.getD 118 undef :: t.getD 119 undef :: t.getD 120 undef :: []).toArray := arr_gen t 121 h

/-- Where the text ends in Z. -/
structure PJ (s : List UInt8) (w : World) (N : Nat) (a : Act) : Prop where
  dfr : a.defers = []
  size : a.tmps.size = 121
  s0 : a.tmps.getD 0 undef = .string ⟨s.toArray⟩
  s2 : a.tmps.getD 2 undef = .pointer (some ⟨w.heap.size, 0, none⟩)
  s3 : a.tmps.getD 3 undef = .nilIface
  s4 : a.tmps.getD 4 undef = .pointer (some ⟨w.heap.size + 1, 0, none⟩)
  s5 : a.tmps.getD 5 undef = .slice (some ⟨w.heap.size + 1 + 1, 0, none⟩) 6 6
  s8 : a.tmps.getD 8 undef = .int .i64 (N : Int)
  s9 : a.tmps.getD 9 undef = .int .i64 0
theorem PJ.frame {s : List UInt8} {w : World} {N : Nat} {a : Act} (h : PJ s w N a) : ∃ u : Nat → Value, a = { tmps := (.string ⟨s.toArray⟩ :: u 1 :: .pointer (some ⟨w.heap.size, 0, none⟩) :: .nilIface :: .pointer (some ⟨w.heap.size + 1, 0, none⟩) :: .slice (some ⟨w.heap.size + 1 + 1, 0, none⟩) 6 6 :: u 6 :: u 7 :: .int .i64 (N : Int) :: .int .i64 0 :: u 10 :: u 11 :: u 12 :: u 13 :: u 14 :: u 15 :: u 16 :: u 17 :: u 18 :: u 19 :: u 20 :: u 21 :: u 22 :: u 23 :: u 24 :: u 25 :: u 26 :: u 27 :: u 28 :: u 29 :: u 30 :: u 31 :: u 32 :: u 33 :: u 34 :: u 35 :: u 36 :: u 37 :: u 38 :: u 39 :: u 40 :: u 41 :: u 42 :: u 43 :: u 44 :: u 45 :: u 46 :: u 47 :: u 48 :: u 49 :: u 50 :: u 51 :: u 52 :: u 53 :: u 54 :: u 55 :: u 56 :: u 57 :: u 58 :: u 59 :: u 60 :: u 61 :: u 62 :: u 63 :: u 64 :: u 65 :: u 66 :: u 67 :: u 68 :: u 69 :: u 70 :: u 71 :: u 72 :: u 73 :: u 74 :: u 75 :: u 76 :: u 77 :: u 78 :: u 79 :: u 80 :: u 81 :: u 82 :: u 83 :: u 84 :: u 85 :: u 86 :: u 87 :: u 88 :: u 89 :: u 90 :: u 91 :: u 92 :: u 93 :: u 94 :: u 95 :: u 96 :: u 97 :: u 98 :: u 99 :: u 100 :: u 101 :: u 102 :: u 103 :: u 104 :: u 105 :: u 106 :: u 107 :: u 108 :: u 109 :: u 110 :: u 111 :: u 112 :: u 113 :: u 114 :: u 115 :: u 116 :: u 117 :: u 118 :: u 119 :: u 120 :: []).toArray, defers := [] } := by
  refine ⟨fun k => a.tmps.getD k undef, ?_⟩
  obtain ⟨t, df⟩ := a
  have h1 := h.dfr
  have h2 := arr121 t h.size
  have e0 := h.s0
  have e2 := h.s2
  have e3 := h.s3
  have e4 := h.s4
  have e5 := h.s5
  have e8 := h.s8
  have e9 := h.s9
  simp only at h1 e0 e2 e3 e4 e5 e8 e9
  rw [h1]
  congr 1
  rw [e0, e2, e3, e4, e5, e8, e9] at h2
  exact h2

theorem ofin_of {w W : World} {ev : Addr} {x : St} {Y M D H I E : Nat} (he : EnvS w ev) (h8 : 5 ≤ w.heap.size) (p : PW w W x Y M D H I E) (bY : Y ≤ 9999) (bM : M < 100) (bD : D < 100) (bH : H < 100) (bI : I < 100) (bE : E < 100) :
    OfIn W ev (w.heap.size + 1 + 1) Y M D H I E := ⟨he.below p.below h8, p.date, by omega, by omega, by omega, by omega, by omega, by omega⟩
end Go.Proofs.YtacmlpgakibdgaaDoor
