import Derived.WalkKit
import Derived.WalkSpells
import Derived.WalkLawsBesides
import Derived.Lib.Hide
import Derived.Deep.QuietTactic
import Derived.BigQuiet
import Derived.Laws.OwnMore
import Derived.Deep.AppendLies
import Derived.Deep.Draws
import Derived.Maps.AppendAt
import Derived.RegionTactic
import Derived.OwnWalk
import Derived.ChangeMaps4
import Derived.Laws.IdiomStrings
set_option linter.unusedSimpArgs false
set_option linter.unusedVariables false
namespace Go.Own
open Go.RowKit

/-- A byte as a value. -/
def bv (b : UInt8) : Value := .int .u8 (b.toNat : Int)

theorem add_block (a : Addr) (n : Nat) : (a.add n).block = a.block := by unfold Addr.add; split <;> rfl
theorem add_two (a : Addr) (i j : Nat) : (a.add i).add j = a.add (i + j) := by
  unfold Addr.add
  by_cases hi : i = 0 <;> by_cases hj : j = 0 <;> simp [hi, hj, Nat.add_assoc]

/-- The slice at A of n bytes reads as l, below block B. -/
def Rd (w : World) (B : Nat) (A : Option Addr) (n : Nat) (l : List UInt8) : Prop :=
  l.length = n ∧ (0 < n → ∃ ad, A = some ad ∧ ad.block < B ∧ ∀ j, j < n → w.cell? (ad.add j) = some (.int .u8 ((l.getD j 0).toNat : Int)))

section
variable {w w' : World} {B B' n : Nat} {A : Option Addr} {l : List UInt8}
theorem Rd.len (h : Rd w B A n l) : l.length = n := h.1
theorem Rd.at_ {k : Nat} (h : Rd w B A n l) (hk : k < n) : ∃ ad, A = some ad ∧ ad.block < B ∧ w.cell? (ad.add k) = some (.int .u8 ((l.getD k 0).toNat : Int)) := by
  obtain ⟨ad, e, hb, hc⟩ := h.2 (by omega)
  exact ⟨ad, e, hb, hc k hk⟩
theorem Rd.keep (h : Rd w B A n l) (hk : ∀ p : Addr, p.block < B → w'.cell? p = w.cell? p) : Rd w' B A n l :=
  ⟨h.1, fun hn => by
    obtain ⟨ad, e, hb, hc⟩ := h.2 hn
    exact ⟨ad, e, hb, fun j hj => (hk _ (by rw [add_block]; exact hb)).trans (hc j hj)⟩⟩
theorem Rd.more (h : Rd w B A n l) (hB : B ≤ B') : Rd w B' A n l :=
  ⟨h.1, fun hn => by
    obtain ⟨ad, e, hb, hc⟩ := h.2 hn
    exact ⟨ad, e, by omega, hc⟩⟩
theorem Rd.below (h : Rd w B A n l) (hb : Below B w w') : Rd w' B A n l := h.keep fun _ hp => hb.cell hp
theorem Rd.drewN (h : Rd w B A n l) (k : Nat) : Rd (w.drewN k) B A n l := h
theorem Rd.drew (h : Rd w B A n l) : Rd w.drew B A n l := h
theorem Rd.cut (h : Rd w B A n l) {k c : Nat} (hk : k ≤ n) (hc : n ≤ c) : Rd w B (if c = k then A else A.map (·.add k)) (n - k) (l.drop k) := by
  refine ⟨by rw [List.length_drop, h.1], fun hn => ?_⟩
  obtain ⟨ad, rfl, hb, hcell⟩ := h.2 (by omega)
  rw [if_neg (by omega)]
  refine ⟨ad.add k, rfl, by rw [add_block]; exact hb, fun j hj => ?_⟩
  rw [add_two, hcell (k + j) (by omega)]
  simp
end


theorem Rd.sub {w : World} {B n c k u : Nat} {A : Option Addr} {l : List UInt8} (h : Rd w B A n l) (hk : k + u ≤ n) (hc : n ≤ c) : Rd w B (if c = k then A else A.map (·.add k)) u ((l.drop k).take u) := by
  have h0 := h.cut (k := k) (c := c) (by omega) hc
  refine ⟨by rw [List.length_take, h0.1]; omega, fun hu => ?_⟩
  obtain ⟨ad, e, hb, hcell⟩ := h0.2 (by omega)
  refine ⟨ad, e, hb, fun j hj => ?_⟩
  rw [hcell j (by omega)]
  simp [hj]
theorem Rd.sub_same {w : World} {B n c k u : Nat} {A : Option Addr} {l : List UInt8} (h : Rd w B A n l) (hk : k + u ≤ n) (hc : n ≤ c) (e : c = k) : Rd w B A u ((l.drop k).take u) := by
  have := h.sub hk hc; rw [if_pos e] at this; exact this
theorem Rd.sub_other {w : World} {B n c k u : Nat} {A : Option Addr} {l : List UInt8} (h : Rd w B A n l) (hk : k + u ≤ n) (hc : n ≤ c) (e : ¬ c = k) : Rd w B (A.map fun x => x.add k) u ((l.drop k).take u) := by
  have := h.sub hk hc; rw [if_neg e] at this; exact this
theorem Rd.cut_same {w : World} {B n c k : Nat} {A : Option Addr} {l : List UInt8} (h : Rd w B A n l) (hk : k ≤ n) (hc : n ≤ c) (e : c = k) : Rd w B A (n - k) (l.drop k) := by
  have := h.cut hk hc; rw [if_pos e] at this; exact this
theorem Rd.cut_other {w : World} {B n c k : Nat} {A : Option Addr} {l : List UInt8} (h : Rd w B A n l) (hk : k ≤ n) (hc : n ≤ c) (e : ¬ c = k) : Rd w B (A.map fun x => x.add k) (n - k) (l.drop k) := by
  have := h.cut hk hc; rw [if_neg e] at this; exact this
theorem Rd.head {w : World} {B n k : Nat} {A : Option Addr} {l : List UInt8} (h : Rd w B A n l) (hk : k ≤ n) : Rd w B A k (l.take k) := by
  refine ⟨by rw [List.length_take, h.1]; omega, fun hu => ?_⟩
  obtain ⟨ad, e, hb, hcell⟩ := h.2 (by omega)
  refine ⟨ad, e, hb, fun j hj => ?_⟩
  rw [hcell j (by omega)]
  simp [hj]

/-- The slice type t over bytes e, in a program. -/
structure ByteP (P : Program) (t e : TypeId) : Prop where
  slice : P.underlying t = some (.slice e)
  info : ∃ i, P.info? e = some i ∧ i.zero = some (.int .u8 0) ∧ i.size = 1 ∧ i.bytes = 1

/-- v owns the bytes l, at the head of a row of its own, from block base on. -/
def Ow (w : World) (base : Nat) (e : TypeId) (v : Value) (n : Nat) (l : List UInt8) : Prop := w.ownsRow base e 1 v n (l.map bv)

section
variable {w w' : World} {base n : Nat} {e : TypeId} {v : Value} {l : List UInt8}
theorem Ow.len (h : Ow w base e v n l) : l.length = n := by have := h.1; simpa using this
theorem Ow.form (h : Ow w base e v n l) : ∃ A cap, v = .slice A n cap ∧ n ≤ cap ∧ cap ≤ maxLen ∧ Rd w w.heap.size A n l := by
  rcases h.2 with ⟨rfl, rfl⟩ | ⟨g, cap, cur, rfl, _, hg, hn, hm, hs, ht⟩
  · exact ⟨none, 0, rfl, Nat.le_refl _, by simp only [maxLen]; omega, h.len, fun h0 => absurd h0 (by omega)⟩
  · have hlt : g < w.heap.size := by
      rcases Nat.lt_or_ge g w.heap.size with hlt | hge
      · exact hlt
      · rw [Array.getElem?_eq_none hge] at hg; cases hg
    refine ⟨_, cap, rfl, hn, hm, h.len, fun _ => ⟨_, rfl, hlt, fun j hj => ?_⟩⟩
    have hl := h.len
    have hc := World.ownsRow.cellAt (w := w) (base := base) (e := e) (size := 1) (g := g) (n := n) (cap := cap) (xs := l.map bv) h j (by omega)
    rw [Addr.add_lit, Nat.zero_add, hc]
    simp [List.getD, bv, show j < l.length by omega]
theorem Ow.rd {A : Option Addr} {cap : Nat} (h : Ow w base e (.slice A n cap) n l) : Rd w w.heap.size A n l := by
  obtain ⟨A', cap', hv, _, _, hr⟩ := h.form
  injection hv with h1 h2 h3
  subst h1
  exact hr
theorem Ow.grown {row : Option Nat} (h : Ow w base e v n l) (hg : w.grownBy w' row) (hne : v.ownBlock = none ∨ v.ownBlock ≠ row) : Ow w' base e v n l := by
  rcases h.2 with ⟨rfl, rfl⟩ | ⟨g, cap, cur, rfl, hb, hh, hn, hm, hs, ht⟩
  · exact ⟨h.1, .inl ⟨rfl, rfl⟩⟩
  · have hlt : g < w.heap.size := by
      rcases Nat.lt_or_ge g w.heap.size with hlt | hge
      · exact hlt
      · rw [Array.getElem?_eq_none hge] at hh; cases hh
    refine ⟨h.1, .inr ⟨g, cap, cur, rfl, hb, ?_, hn, hm, hs, ht⟩⟩
    rw [hg.block g hlt (by
      rcases hne with hne | hne
      · simp [Value.ownBlock] at hne
      · exact hne)]
    exact hh
theorem Ow.below {B : Nat} (h : Ow w base e v n l) (hb : Below B w w') (hv : ∀ g, v.ownBlock = some g → g < B) : Ow w' base e v n l := by
  rcases h.2 with ⟨rfl, rfl⟩ | ⟨g, cap, cur, rfl, hb', hh, hn, hm, hs, ht⟩
  · exact ⟨h.1, .inl ⟨rfl, rfl⟩⟩
  · exact ⟨h.1, .inr ⟨g, cap, cur, rfl, hb', (hb.block g (hv g rfl)).trans hh, hn, hm, hs, ht⟩⟩
theorem Ow.drewN (h : Ow w base e v n l) (k : Nat) : Ow (w.drewN k) base e v n l := h
theorem Ow.lt (h : Ow w base e v n l) {g : Nat} (hv : v.ownBlock = some g) : g < w.heap.size ∧ base ≤ g := by
  rcases h.2 with ⟨rfl, rfl⟩ | ⟨g', cap, cur, rfl, hb', hh, hn, hm, hs, ht⟩
  · simp [Value.ownBlock] at hv
  · have : g' = g := by simpa [Value.ownBlock] using hv
    subst this
    refine ⟨?_, hb'⟩
    rcases Nat.lt_or_ge g' w.heap.size with hlt | hge
    · exact hlt
    · rw [Array.getElem?_eq_none hge] at hh; cases hh
end

theorem Ow.base {w : World} {base base' n : Nat} {e : TypeId} {v : Value} {l : List UInt8} (h : Ow w base e v n l) (hb : base' ≤ base) : Ow w base' e v n l := by
  rcases h.2 with ⟨rfl, rfl⟩ | ⟨g, cap, cur, rfl, hb', hh, hn, hm, hs, ht⟩
  · exact ⟨h.1, .inl ⟨rfl, rfl⟩⟩
  · exact ⟨h.1, .inr ⟨g, cap, cur, rfl, Nat.le_trans hb hb', hh, hn, hm, hs, ht⟩⟩
theorem bv_one {l : List UInt8} : ∀ u ∈ l.map bv, u.oneCell' = true := by
  intro u hu
  obtain ⟨b, _, rfl⟩ := List.mem_map.1 hu
  rfl

theorem Rd.cells {w : World} {B m : Nat} {ad : Addr} {l : List UInt8} (h : Rd w B (some ad) m l) : ∀ j u, (l.map bv)[j]? = some u → w.cell? (ad.add j) = some u := by
  intro j u hu
  have hj : j < l.length := by have := (List.getElem?_eq_some_iff.1 hu).1; simpa using this
  obtain ⟨ad', e, _, hc⟩ := h.2 (by have := h.1; omega)
  injection e with e
  subst e
  rw [hc j (by have := h.1; omega)]
  rw [← hu]
  simp [bv, List.getD, hj]

section
variable {P : Program} (w : World)

theorem run_app_nil {t e : TypeId} (hP : ByteP P t e) (ty : TypeId) (base : Nat) (v : Value) (n : Nat) (l : List UInt8) (hown : Ow w base e v n l) (c : Nat) :
    (Builtin.append_ #[t, t] ty #[v, .slice none 0 c]).run P w = .ok v w := by
  obtain ⟨i, hi, hz, h1, h2⟩ := hP.info
  rcases hown.2 with ⟨rfl, rfl⟩ | ⟨g, cap, cur, rfl, _, _, hnc, _⟩
  · simp [Builtin.append_, run_underlying hP.slice, sizeOf, typeInfo, hi, Builtin.lenOf, Builtin.firstCells]
  · simp [Builtin.append_, run_underlying hP.slice, sizeOf, typeInfo, hi, Builtin.lenOf, Builtin.firstCells, hnc, storeCells]

theorem Rd.none_zero {w : World} {B m : Nat} {l : List UInt8} (h : Rd w B none m l) : m = 0 ∧ l = [] := by
  have hm : m = 0 := by
    rcases Nat.eq_zero_or_pos m with h0 | h0
    · exact h0
    · obtain ⟨ad, hh, _⟩ := h.2 h0
      cases hh
  exact ⟨hm, List.eq_nil_of_length_eq_zero (by rw [h.1, hm])⟩

theorem run_app_fits {t e : TypeId} (hP : ByteP P t e) (ty : TypeId) (base g k cap : Nat) (xs : List UInt8) (hown : Ow w base e (.slice (some ⟨g, 0, none⟩) k cap) k xs)
    (B : Nat) (A : Option Addr) (m c : Nat) (l : List UInt8) (hr : Rd w B A m l) (b1 : k + m ≤ cap) :
    ∃ w', (Builtin.append_ #[t, t] ty #[.slice (some ⟨g, 0, none⟩) k cap, .slice A m c]).run P w = .ok (.slice (some ⟨g, 0, none⟩) (k + m) cap) w' ∧
      Ow w' base e (.slice (some ⟨g, 0, none⟩) (k + m) cap) (k + m) (xs ++ l) ∧ w.grownBy w' (some g) := by
  obtain ⟨i, hi, hz, h1, h2⟩ := hP.info
  rcases A with _ | ad
  · obtain ⟨rfl, rfl⟩ := hr.none_zero
    exact ⟨w, run_app_nil w hP ty base _ k xs hown c, by simpa using hown, World.grownBy.refl w _⟩
  · obtain ⟨w', hrun, r1, r2⟩ := run_append_fits (P := P) w base t ty e i 1 hP.slice hi h1 g k cap (xs.map bv) hown ad m c (l.map bv) (by simpa using hr.1) hr.cells bv_one b1
    exact ⟨w', hrun, by unfold Ow; rw [List.map_append]; exact r1, r2⟩

theorem run_app_any {t e : TypeId} (hP : ByteP P t e) (ty : TypeId) (base : Nat) (v : Value) (n : Nat) (xs : List UInt8) (hown : Ow w base e v n xs)
    (B : Nat) (A : Option Addr) (m c : Nat) (l : List UInt8) (hr : Rd w B A m l) (hb : n + m ≤ 140737488355328) (hbase : base ≤ w.heap.size) :
    ∃ v' w', (Builtin.append_ #[t, t] ty #[v, .slice A m c]).run P w = .ok v' w' ∧ Ow w' base e v' (n + m) (xs ++ l) ∧ w.grownBy w' v.ownBlock ∧
      (v'.ownBlock = v.ownBlock ∨ v'.ownBlock = some w.heap.size) := by
  obtain ⟨i, hi, hz, h1, h2⟩ := hP.info
  rcases A with _ | ad
  · obtain ⟨rfl, rfl⟩ := hr.none_zero
    exact ⟨v, w, run_app_nil w hP ty base v n xs hown c, by simpa using hown, World.grownBy.refl w _, .inl rfl⟩
  · obtain ⟨v', w', hrun, r1, r2, _, r4⟩ := run_append_own_at (P := P) w base t ty e i (.int .u8 0) 1 1 hP.slice hi hz h1 h2 rfl (by omega) v n (xs.map bv) hown ad m c (l.map bv) (by simpa using hr.1) hr.cells bv_one (by simp only [maxLen]; omega) (by omega) hbase
    exact ⟨v', w', hrun, by unfold Ow; rw [List.map_append]; exact r1, r2, r4⟩

variable {ops : Array Oper} {rest : List Oper} {o : Oper} {a : Act} {Q : Exit → Act → World → Prop}

/-- append within the capacity. -/
theorem wpList_app_fits {t e : TypeId} (hP : ByteP P t e) (hgd : o.guard = none) (s x : Operand) (ho : o.op = .call { callee := .builtin .append, args := #[s, x], argTypes := #[t, t] })
    (base g k cap : Nat) (xs : List UInt8) (hs : a.eval s = .slice (some ⟨g, 0, none⟩) k cap) (hown : Ow w base e (.slice (some ⟨g, 0, none⟩) k cap) k xs)
    (B : Nat) (A : Option Addr) (m c : Nat) (l : List UInt8) (hx : a.eval x = .slice A m c) (hr : Rd w B A m l) (b1 : k + m ≤ cap)
    (h : ∀ w', Ow w' base e (.slice (some ⟨g, 0, none⟩) (k + m) cap) (k + m) (xs ++ l) → w.grownBy w' (some g) → wpList P ops Q rest (a.put o.dst (.slice (some ⟨g, 0, none⟩) (k + m) cap)) w') :
    wpList P ops Q (o :: rest) a w := by
  refine wpList_plain hgd fun K hK => ?_
  obtain ⟨w', hrun, r1, r2⟩ := run_app_fits (P := P) w hP o.type base g k cap xs hown B A m c l hr b1
  unfold Oper.wp execOp
  simp only [ho, resolve, invoke, builtin, Sem.run_bind, Sem.run_pure, Result.andThen_ok, List.map_toArray, List.map_cons, List.map_nil, hs, hx, hrun]
  exact hK _ _ (h w' r1 r2)

/-- append that may grow. -/
theorem wpList_app_any {t e : TypeId} (hP : ByteP P t e) (hgd : o.guard = none) (s x : Operand) (ho : o.op = .call { callee := .builtin .append, args := #[s, x], argTypes := #[t, t] })
    (base : Nat) (v : Value) (n : Nat) (xs : List UInt8) (hs : a.eval s = v) (hown : Ow w base e v n xs)
    (B : Nat) (A : Option Addr) (m c : Nat) (l : List UInt8) (hx : a.eval x = .slice A m c) (hr : Rd w B A m l) (hb : n + m ≤ 140737488355328) (hbase : base ≤ w.heap.size)
    (h : ∀ A' cap' w', Ow w' base e (.slice A' (n + m) cap') (n + m) (xs ++ l) → w.grownBy w' v.ownBlock → ((Value.slice A' (n + m) cap').ownBlock = v.ownBlock ∨ (Value.slice A' (n + m) cap').ownBlock = some w.heap.size) → n + m ≤ cap' → cap' ≤ maxLen → wpList P ops Q rest (a.put o.dst (.slice A' (n + m) cap')) w') :
    wpList P ops Q (o :: rest) a w := by
  refine wpList_plain hgd fun K hK => ?_
  obtain ⟨v', w', hrun, r1, r2, r3⟩ := run_app_any (P := P) w hP o.type base v n xs hown B A m c l hr hb hbase
  obtain ⟨A', cap', rfl, h1, h2, _⟩ := r1.form
  unfold Oper.wp execOp
  simp only [ho, resolve, invoke, builtin, Sem.run_bind, Sem.run_pure, Result.andThen_ok, List.map_toArray, List.map_cons, List.map_nil, hs, hx, hrun]
  exact hK _ _ (h A' cap' w' r1 r2 r3 h1 h2)

/-- make([]byte, 0, n) -/
theorem wpList_mk {t e : TypeId} (hP : ByteP P t e) (hgd : o.guard = none) (l c : Operand) (hop : o.op = Op.makeSlice t l c) (base : Nat)
    (kl kc : IntKind) (C : Int) (n : Nat) (hl : a.eval l = .int kl 0) (hc : a.eval c = .int kc C) (hC : C = (n : Int)) (b2 : n ≤ 281474976710656) (b4 : base ≤ w.heap.size)
    (hK : ∀ w', Ow w' base e (.slice (some ⟨w.heap.size, 0, none⟩) 0 n) 0 [] → w.grownBy w' none → wpList P ops Q rest (a.put o.dst (.slice (some ⟨w.heap.size, 0, none⟩) 0 n)) w') :
    wpList P ops Q (o :: rest) a w := by
  obtain ⟨i, hi, hz, h1, h2⟩ := hP.info
  exact wpList_make_own (P := P) w hgd l c t hop base e i _ 1 hP.slice hi hz h1 kl kc C n hl hc hC (by rw [h2]; omega) (by simp only [maxLen]; omega) b4 hK
end

/-- One byte in a new block. -/
theorem Rd.one (w : World) (v : Int) (b : UInt8) (e : TypeId) (hv : v = (b.toNat : Int)) : Rd (w.alloc (.cells #[.int .u8 v] e)) (w.heap.size + 1) (some ⟨w.heap.size, 0, none⟩) 1 [b] := by
  refine ⟨rfl, fun _ => ⟨_, rfl, Nat.lt_succ_self _, fun j hj => ?_⟩⟩
  obtain rfl : j = 0 := by omega
  subst hv
  rw [Addr.add_lit]
  simp
theorem Ow.alloc {w : World} {base n : Nat} {e : TypeId} {v : Value} {l : List UInt8} (h : Ow w base e v n l) (o : Obj) : Ow (w.alloc o) base e v n l :=
  h.grown (World.grownBy_alloc w o none) (by cases hv : v.ownBlock <;> simp)
theorem Rd.alloc {w : World} {B : Nat} {A : Option Addr} {n : Nat} {l : List UInt8} (h : Rd w B A n l) (hB : B ≤ w.heap.size) (o : Obj) : Rd (w.alloc o) B A n l := h.keep fun p hp => World.cell?_alloc_lt w o p (by omega)
theorem Rd.setCell {w : World} {B : Nat} {A : Option Addr} {n : Nat} {l : List UInt8} (h : Rd w B A n l) {p : Addr} (hB : B ≤ p.block) (u : Value) : Rd (w.setCell p u) B A n l :=
  h.keep fun q hq => World.cell?_setCell_other w p q u (fun e => by subst e; omega)
theorem Rd.grown {w w' : World} {B : Nat} {A : Option Addr} {n : Nat} {l : List UInt8} (h : Rd w B A n l) {row : Option Nat} (hg : w.grownBy w' row) (hB : B ≤ w.heap.size) (hr : ∀ g, row = some g → B ≤ g) : Rd w' B A n l :=
  h.keep fun p hp => World.cell?_of_block (hg.block p.block (by omega) (fun e => by have := hr _ e.symm; omega))


section
variable {P : Program} (w : World)
variable {ops : Array Oper} {rest : List Oper} {o : Oper} {a : Act} {Q : Exit → Act → World → Prop}
theorem run_mkMap {P : Program} (t : TypeId) (w : World) : (Instr.makeMap t none).run P w = .ok (.map (some w.heap.size)) (w.alloc (.map #[] 0)) := rfl
theorem run_mapUpdate_new {t k e : TypeId} (ht : P.underlying t = some (.map k e)) (hk : P.underlying k = some (.int .i64)) (r clock : Nat) (es : Array MapEntry) (key : Int) (val : Value)
    (hb : w.heap[r]? = some (.map es clock)) (hf : Instr.findNow (.int .i64) (.int .i64 key) es.toList 0 = some none) :
    (Instr.mapUpdate t (.map (some r)) (.int .i64 key) val).run P w = .ok () { w with heap := w.heap.setIfInBounds r (.map (es.push { key := .int .i64 key, val := val, born := clock }) (clock + 1)) } := by
  have hc : (Instr.checkKey false 10000 k (.int .i64 key)).run P w = .ok () w := MapKept.run_checkKey (k := .int .i64 key) hk (by simp [MapKept.IsKey]) false 9999
  simp [Instr.mapUpdate, run_underlying ht, MapKept.run_getObj_map hb, hc, MapKept.run_findKey hk hf, MapKept.run_setObj_map _ hb, Result.andThen]

theorem wpList_insert {t k e : TypeId} (hg : o.guard = none) (m x v : Operand) (hop : o.op = Op.insert t m x v) (ht : P.underlying t = some (.map k e)) (hk : P.underlying k = some (.int .i64))
    (r clock : Nat) (es : Array MapEntry) (key : Int) (val : Value) (hm : a.eval m = .map (some r)) (hx : a.eval x = .int .i64 key) (hv : a.eval v = val)
    (hb : w.heap[r]? = some (.map es clock)) (hf : Instr.findNow (.int .i64) (.int .i64 key) es.toList 0 = some none)
    (hK : ∀ w', w'.heap[r]? = some (.map (es.push { key := .int .i64 key, val := val, born := clock }) (clock + 1)) → w.grownBy w' (some r) → wpList P ops Q rest (a.put o.dst undef) w') :
    wpList P ops Q (o :: rest) a w := by
  refine wpList_plain hg fun K hK' => ?_
  unfold Oper.wp
  have hr := run_mapUpdate_new (P := P) w ht hk r clock es key val hb hf
  simp [execOp, hop, hm, hx, hv, hr, Result.andThen]
  refine hK' _ _ (hK _ ?_ ⟨rfl, rfl, rfl, by simp, fun i hi hne => ?_⟩)
  · have := (MapKept.heap_set (w := w) (o' := .map (es.push { key := .int .i64 key, val := val, born := clock }) (clock + 1)) hb).1
    exact this
  · exact (MapKept.heap_set (w := w) hb).2 i (fun h => hne (by rw [h]))
end

theorem run_from {P : Program} {t e : TypeId} (hP : ByteP P t e) (A : Option Addr) (n c k : Nat) (hk : k ≤ n) (_ : n ≤ c) (W : World) :
    (Instr.slice t (.slice A n c) (some (.int .i64 (k : Int))) none none).run P W = .ok (.slice (if c = k then A else A.map fun x => x.add k) (n - k) (c - k)) W := by
  obtain ⟨i, hi, hz, h1, h2⟩ := hP.info
  simp [Instr.slice, run_underlying hP.slice, Instr.sliceBounds, run_sliceBound, sizeOf, typeInfo, hi, h1, Result.andThen, show (k : Int) ≤ n by omega]
/-- What s[k:] is, whatever the capacity. -/
theorem cut_from {P : Program} {t e : TypeId} (hP : ByteP P t e) {w : World} {B n c k : Nat} {A : Option Addr} {l : List UInt8} (h : Rd w B A n l) (x : Int) (hx : x = (k : Int)) (hk : k ≤ n) (hc : n ≤ c) :
    ∃ A', Rd w B A' (n - k) (l.drop k) ∧ ∀ W : World, (Instr.slice t (.slice A n c) (some (.int .i64 x)) none none).run P W = .ok (.slice A' (n - k) (c - k)) W :=
  ⟨_, h.cut hk hc, fun W => by rw [hx]; exact run_from hP A n c k hk hc W⟩

/-- string(b) -/
theorem run_str {P : Program} {w : World} {B n c : Nat} {A : Option Addr} {l : List UInt8} (src dst e : TypeId) (hs : P.underlying src = some (.slice e)) (he : P.underlying e = some (.int .u8)) (hd : P.underlying dst = some .string) (h : Rd w B A n l) :
    (convert src dst (.slice A n c)).run P w = .ok (.string ⟨l.toArray⟩) w := by
  rcases A with _ | ad
  · obtain ⟨rfl, rfl⟩ := h.none_zero
    rw [run_convert_bytes_string w src dst e _ 0 c hs he hd]
    simp [Conv.bytesToString]
    rfl
  · have hl := h.1
    subst hl
    refine run_convert_bytes_back (P := P) w src dst e ad c l hs he hd fun j hj => ?_
    obtain ⟨ad', e', _, hc⟩ := h.2 (by omega)
    injection e' with e'
    subst e'
    rw [hc j hj]
    simp [List.getD, hj]

/-- A block that is known whole. -/
def Blk (w : World) (g : Nat) (t : TypeId) (cs : Array Value) : Prop := w.heap[g]? = some (.cells cs t (0, 0))
section
variable {w w' : World} {g : Nat} {t : TypeId} {cs : Array Value}
theorem Blk.lt (h : Blk w g t cs) : g < w.heap.size := by
  rcases Nat.lt_or_ge g w.heap.size with hlt | hge
  · exact hlt
  · unfold Blk at h; rw [Array.getElem?_eq_none hge] at h; cases h
theorem Blk.cell (h : Blk w g t cs) (i : Nat) : w.cell? ⟨g, i, none⟩ = cs[i]? := cell_of_row w g i cs t (0, 0) h
theorem Blk.frozen (h : Blk w g t cs) (i : Nat) : w.frozen? ⟨g, i, none⟩ = false := by
  unfold Blk at h
  simp [World.frozen?, h]
theorem Blk.new (w : World) (t : TypeId) (cs : Array Value) : Blk (w.alloc (.cells cs t)) w.heap.size t cs := heap_alloc_new w _
theorem Blk.drewN (h : Blk w g t cs) (n : Nat) : Blk (w.drewN n) g t cs := h
theorem Blk.alloc (h : Blk w g t cs) (o : Obj) : Blk (w.alloc o) g t cs := (Below.heap_alloc w o g h.lt).trans h
theorem Blk.put (h : Blk w g t cs) (i : Nat) (u : Value) : Blk (w.setCell ⟨g, i, none⟩ u) g t (cs.setIfInBounds i u) := by
  unfold Blk at h ⊢
  simp [World.setCell, Array.getElem?_modify, h]
theorem Blk.far (h : Blk w g t cs) {p : Addr} (hp : g ≠ p.block) (u : Value) : Blk (w.setCell p u) g t cs := (Below.heap_setCell w p u g hp).trans h
theorem Blk.below {B : Nat} (h : Blk w g t cs) (hb : Below B w w') (hg : g < B) : Blk w' g t cs := (hb.block g hg).trans h
theorem Blk.grown {row : Option Nat} (h : Blk w g t cs) (hb : w.grownBy w' row) (hg : some g ≠ row) : Blk w' g t cs := (hb.block g h.lt hg).trans h
end
theorem grown_drewN {a w : World} {row : Option Nat} (h : a.grownBy w row) (n : Nat) : a.grownBy (w.drewN n) row := ⟨h.os, h.tape, h.output, h.size, h.block⟩
theorem below_drewN {B : Nat} {a w : World} (h : Below B a w) (n : Nat) : Below B a (w.drewN n) := ⟨h.os, h.tape, h.output, h.size, h.block⟩
theorem below_of_drew {B : Nat} {a w : World} (h : Below B a.drew w) : Below B a w := ⟨h.os, h.tape, h.output, h.size, h.block⟩
theorem grown_of_below {a w : World} (h : Below a.heap.size a w) (row : Option Nat) : a.grownBy w row := ⟨h.os, h.tape, h.output, h.size, fun i hi _ => h.block i hi⟩
theorem grown_trans {a b c : World} {row : Option Nat} (h : a.grownBy b row) (k : b.grownBy c row) : a.grownBy c row :=
  ⟨k.os.trans h.os, k.tape.trans h.tape, k.output.trans h.output, Nat.le_trans h.size k.size, fun i hi hn => (k.block i (Nat.lt_of_lt_of_le hi h.size) hn).trans (h.block i hi hn)⟩
theorem grown_setCell {a w : World} {g : Nat} (h : a.grownBy w (some g)) (i : Nat) (u : Value) : a.grownBy (w.setCell ⟨g, i, none⟩ u) (some g) :=
  ⟨h.os, h.tape, h.output, by simpa [World.setCell] using h.size, fun j hj hne => (Below.heap_setCell w ⟨g, i, none⟩ u j (fun e => hne (by rw [e]))).trans (h.block j hj hne)⟩
theorem grown_alloc {a w : World} {row : Option Nat} (h : a.grownBy w row) (o : Obj) : a.grownBy (w.alloc o) row :=
  ⟨h.os, h.tape, h.output, Nat.le_trans h.size (by simp), fun i hi hne => (Below.heap_alloc w o i (Nat.lt_of_lt_of_le hi h.size)).trans (h.block i hi hne)⟩

end Go.Own
