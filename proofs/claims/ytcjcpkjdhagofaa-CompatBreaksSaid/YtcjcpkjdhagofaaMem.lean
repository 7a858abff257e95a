/-
  Lists whose elements lie in k cells each: slices of one's own, append, copies. (Program: types' sizes.)
-/
import Derived.Test.YtcjcpkjdhagofaaProg
import Derived.Test.YtcjcpkjdhagofaaSch
import Derived.Shelf.Abstract
import Derived.Laws.AppendOwn
import Derived.Maps.AppendAt
import Derived.Laws.OwnMore
import Derived.Deep.AppendLies
import Derived.OwnWalk
import Derived.WalkSpells
namespace Go.Own.Cm
open Go Go.RowKit Go.Own
section
variable {α : Type} {f : α → Array Value} {k : Nat}
def flat (f : α → Array Value) (l : List α) : List Value := l.flatMap fun x => (f x).toList
theorem flat_append (a b : List α) : flat f (a ++ b) = flat f a ++ flat f b := by simp [flat]
theorem flat_len (hk : ∀ x, (f x).size = k) (l : List α) : (flat f l).length = l.length * k := by
  induction l with
  | nil => simp [flat]
  | cons x l ih =>
    have h := hk x
    simp [flat] at ih ⊢
    rw [ih, h, Nat.add_mul]; omega
theorem flat_at (hk : ∀ x, (f x).size = k) (l : List α) (j i : Nat) (hi : i < k) : (flat f l)[j * k + i]? = (l[j]?).bind fun x => (f x)[i]? := by
  induction l generalizing j with
  | nil => simp [flat]
  | cons x l ih =>
    have e : flat f (x :: l) = (f x).toList ++ flat f l := by simp [flat]
    have hx : (f x).toList.length = k := by simpa using hk x
    rw [e]
    cases j with
    | zero =>
      rw [List.getElem?_append_left (by rw [hx]; omega)]
      simp
    | succ j =>
      rw [List.getElem?_append_right (by rw [hx, Nat.add_mul]; omega), hx, show (j + 1) * k + i - k = j * k + i by rw [Nat.add_mul]; omega, ih j]
      simp
theorem flat_one (h1 : ∀ x, ∀ u ∈ (f x).toList, u.oneCell' = true) (l : List α) : ∀ u ∈ flat f l, u.oneCell' = true := by
  intro u hu
  simp only [flat, List.mem_flatMap] at hu
  obtain ⟨x, _, hx⟩ := hu
  exact h1 x u hx
theorem RS.flatc {w : World} {B : Nat} {A : Option Addr} {n : Nat} {l : List α} (h : RS f k w B A n l) (hk : ∀ x, (f x).size = k) (j : Nat) (u : Value) (hu : (flat f l)[j]? = some u) :
    ∃ ad, A = some ad ∧ ad.block < w.heap.size ∧ w.cell? (ad.add j) = some u := by
  have hj := (List.getElem?_eq_some_iff.1 hu).1
  rw [flat_len hk] at hj
  have hk0 : 0 < k := by
    rcases Nat.eq_zero_or_pos k with h0 | h0
    · rw [h0] at hj; omega
    · exact h0
  have hd : j / k * k + j % k = j := by rw [Nat.mul_comm]; exact Nat.div_add_mod j k
  have hm := Nat.mod_lt j hk0
  have hjl : j / k < l.length := Nat.div_lt_of_lt_mul (by rw [Nat.mul_comm]; exact hj)
  have e := flat_at hk l (j / k) (j % k) hm
  rw [hd, hu, List.getElem?_eq_getElem hjl] at e
  obtain ⟨ad, eA, _, hlt, h0, h1⟩ := h.2 (j / k) l[j / k] (List.getElem?_eq_getElem hjl)
  refine ⟨ad, eA, hlt, ?_⟩
  have e' : (f l[j / k])[j % k]? = some u := e.symm
  by_cases hz : j % k = 0
  · rw [hz] at e' hd
    rw [← e', ← h0]
    congr 2
    omega
  · rw [← h1 (j % k) u (by omega) e']
    have : (⟨(ad.add (j / k * k)).block, (ad.add (j / k * k)).off + j % k, none⟩ : Addr) = ad.add (j / k * k + j % k) := by
      rw [← add_two]
      show _ = Addr.add _ _
      conv => rhs; unfold Addr.add
      rw [if_neg hz]
      rfl
    rw [this, hd]
theorem RS.of_flat {w : World} {B : Nat} {ad : Addr} {n : Nat} {l : List α} (hn : l.length = n) (hk : ∀ x, (f x).size = k) (hk0 : 0 < k) (hB : ad.block < B) (hw : ad.block < w.heap.size)
    (h : ∀ (j : Nat) (u : Value), (flat f l)[j]? = some u → w.cell? (ad.add j) = some u) : RS f k w B (some ad) n l :=
  ⟨hn, fun j x hx => by
    refine ⟨ad, rfl, hB, hw, ?_, fun i v hi hv => ?_⟩
    · have e := flat_at hk l j 0 hk0
      rw [hx] at e
      have h0 : (f x)[0]? = some ((f x)[0]'(by rw [hk x]; exact hk0)) := Array.getElem?_eq_getElem _
      have e' : (Cm.flat f l)[j * k]? = (f x)[0]? := e
      rw [h0] at e' ⊢
      exact h _ _ e'
    · have hik : i < k := by rw [← hk x]; exact (Array.getElem?_eq_some_iff.1 hv).1
      have e := flat_at hk l j i hik
      rw [hx] at e
      have e' : (Cm.flat f l)[j * k + i]? = some v := e.trans hv
      have : (⟨(ad.add (j * k)).block, (ad.add (j * k)).off + i, none⟩ : Addr) = ad.add (j * k + i) := by
        rw [← add_two]
        show _ = Addr.add _ _
        conv => rhs; unfold Addr.add
        rw [if_neg (by omega)]
        rfl
      rw [this]
      exact h _ _ e'⟩
/-- The slice v owns the elements l, from block base on. -/
def Ew (f : α → Array Value) (e : TypeId) (k : Nat) (w : World) (base : Nat) (v : Value) (l : List α) : Prop := w.ownsRow base e k v l.length (flat f l)
variable {e : TypeId} {w w' : World} {base : Nat} {v : Value} {l : List α}
theorem Ew.form (h : Ew f e k w base v l) : ∃ A c, v = .slice A l.length c ∧ l.length ≤ c ∧ c ≤ maxLen := by
  rcases h.2 with ⟨rfl, h0⟩ | ⟨g, cap, cur, rfl, hb, hg, hn, hm, _⟩
  · exact ⟨none, 0, by rw [h0], by omega, by simp [maxLen]⟩
  · exact ⟨_, cap, rfl, hn, hm⟩
theorem Ew.lt (h : Ew f e k w base v l) : ∀ g, v.ownBlock = some g → base ≤ g ∧ g < w.heap.size := World.ownsRow.lt h
theorem Ew.grown {row : Option Nat} (h : Ew f e k w base v l) (hg : w.grownBy w' row) (hne : v.ownBlock = none ∨ v.ownBlock ≠ row) : Ew f e k w' base v l := World.ownsRow.kept h hg hne
theorem own_or (v : Value) : v.ownBlock = none ∨ v.ownBlock ≠ none := by cases v.ownBlock <;> simp
theorem Ew.below (h : Ew f e k w base v l) (hb : Below w.heap.size w w') : Ew f e k w' base v l := h.grown (grown_of_below hb none) (own_or v)
theorem Ew.nil (f : α → Array Value) (e : TypeId) (k : Nat) (w : World) (base : Nat) : Ew f e k w base (.slice none 0 0) [] := ⟨by simp [flat], .inl ⟨rfl, rfl⟩⟩
theorem Ew.from {n c : Nat} {A : Option Addr} (h : Ew f e k w base (.slice A n c) l) : ∀ ad, A = some ad → base ≤ ad.block := by
  rcases h.2 with ⟨e, _⟩ | ⟨g, cap, cur, e, hb, _⟩
  · injection e with e1 _ _
    subst e1
    intro ad e; cases e
  · injection e with e1 _ _
    subst e1
    intro ad e; cases e; exact hb
theorem RS.setCell {B n : Nat} {A : Option Addr} (h : RS f k w B A n l) {p : Addr} (hp : ∀ ad, A = some ad → ad.block ≠ p.block) (u : Value) : RS f k (w.setCell p u) B A n l :=
  h.keep (by simp [World.setCell]) fun ad e _ _ => Below.heap_setCell w p u _ (hp ad e)
/-- What is owned reads as a list. -/
theorem Ew.rs {n c : Nat} {A : Option Addr} (h : Ew f e k w base (.slice A n c) l) (hk : ∀ x, (f x).size = k) (hk0 : 0 < k) : RS f k w w.heap.size A n l := by
  have hn : l.length = n := by
    obtain ⟨A', c', e, _⟩ := h.form
    injection e with _ e _
    exact e.symm
  rcases h.2 with ⟨e, h0⟩ | ⟨g, cap, cur, e, _⟩
  · have : l = [] := List.eq_nil_of_length_eq_zero h0
    subst this
    injection e with e1 _ _
    subst e1
    obtain rfl : n = 0 := by simpa using hn.symm
    exact RS.nil
  · have e' := e
    injection e' with e1 _ _
    subst e1
    exact RS.of_flat hn hk hk0 (World.ownsRow.lt h g rfl).2 (World.ownsRow.lt h g rfl).2 fun j u hu => World.ownsRow.cells h (g := g) rfl j u hu
theorem Ew.lit (f : α → Array Value) (e : TypeId) (hk : ∀ x, (f x).size = k) (w : World) (l : List α) (hl : l.length ≤ 1000) : Ew f e k (w.alloc (.cells (flat f l).toArray e)) w.heap.size (.slice (some ⟨w.heap.size, 0, none⟩) l.length l.length) l :=
  World.ownsRow_lit w (flat f l).toArray l.length (Nat.le_refl _) (by simp only [maxLen]; omega) (by rw [List.size_toArray, flat_len hk])
end
/-- A type of elements in k cells, in a program. -/
structure ElP (P : Program) {α : Type} (f : α → Array Value) (t e : TypeId) (k bytes : Nat) : Prop where
  slice : P.underlying t = some (.slice e)
  info : ∃ i z, P.info? e = some i ∧ i.zero = some z ∧ i.size = k ∧ i.bytes = bytes ∧ z.cells.size = k
  size : ∀ x, (f x).size = k
  one : ∀ x, ∀ u ∈ (f x).toList, u.oneCell' = true
  pos : 0 < k
  few : bytes ≤ 1000
section
variable {P : Program} {α : Type} {f : α → Array Value} {t e : TypeId} {k bytes : Nat}
theorem run_app_e (hP : ElP P f t e k bytes) (w : World) (ty : TypeId) (base : Nat) (v : Value) (l0 : List α) (hown : Ew f e k w base v l0) (B : Nat) (A : Option Addr) (n c : Nat) (l : List α) (hr : RS f k w B A n l) (hb : l0.length + n ≤ 1000000) (hbase : base ≤ w.heap.size) :
    ∃ v' w', (Builtin.append_ #[t, t] ty #[v, .slice A n c]).run P w = .ok v' w' ∧ Ew f e k w' base v' (l0 ++ l) ∧ w.grownBy w' v.ownBlock ∧ (v'.ownBlock = v.ownBlock ∨ v'.ownBlock = some w.heap.size) := by
  obtain ⟨i, z, hi, hz, h1, h2, h3⟩ := hP.info
  rcases Nat.eq_zero_or_pos n with h0 | h0
  · subst h0
    have hl : l = [] := List.eq_nil_of_length_eq_zero hr.1
    subst hl
    refine ⟨v, w, ?_, by simpa using hown, World.grownBy.refl w _, .inl rfl⟩
    rcases hown.2 with ⟨rfl, h0⟩ | ⟨g, cap, cur, rfl, _, _, hnc, _⟩
    · rcases A with _ | ad <;> simp [Builtin.append_, run_underlying hP.slice, sizeOf, typeInfo, hi, Builtin.lenOf, Builtin.firstCells, loadCells, loadCellsFrom]
    · rcases A with _ | ad <;> simp [Builtin.append_, run_underlying hP.slice, sizeOf, typeInfo, hi, Builtin.lenOf, Builtin.firstCells, hnc, storeCells, loadCells, loadCellsFrom]
  · have hjl : 0 < l.length := by rw [hr.1]; exact h0
    obtain ⟨ad, rfl, _⟩ := hr.2 0 l[0] (List.getElem?_eq_getElem hjl)
    have hbytes := hP.few
    obtain ⟨v', w', hrun, r1, r2, _, r4⟩ := run_append_own_at (P := P) w base t ty e i z k bytes hP.slice hi hz h1 h2 h3 hP.pos v l0.length (flat f l0) hown ad n c (flat f l) (by rw [flat_len hP.size, hr.1]) (fun j u hu => by
      obtain ⟨ad', e, _, h⟩ := hr.flatc hP.size j u hu
      obtain rfl := Option.some.inj e
      exact h) (flat_one hP.one l) (by simp only [maxLen]; omega) (by
        have : (l0.length + n) * bytes ≤ 1000000 * 1000 := Nat.mul_le_mul hb hbytes
        omega) hbase
    refine ⟨v', w', hrun, ?_, r2, r4⟩
    unfold Ew
    rw [flat_append, List.length_append, hr.1]
    exact r1
variable {ops : Array Oper} {rest : List Oper} {o : Oper} {a : Act} {Q : Exit → Act → World → Prop}
theorem wpList_app_e (hP : ElP P f t e k bytes) (w : World) (hgd : o.guard = none) (s x : Operand) (ho : o.op = .call { callee := .builtin .append, args := #[s, x], argTypes := #[t, t] })
    (base : Nat) (v : Value) (l0 : List α) (hs : a.eval s = v) (hown : Ew f e k w base v l0) (B : Nat) (A : Option Addr) (n c : Nat) (l : List α) (hx : a.eval x = .slice A n c) (hr : RS f k w B A n l) (hb : l0.length + n ≤ 1000000) (hbase : base ≤ w.heap.size)
    (h : ∀ A' c' w', Ew f e k w' base (.slice A' (l0.length + n) c') (l0 ++ l) → w.grownBy w' v.ownBlock → ((Value.slice A' (l0.length + n) c').ownBlock = v.ownBlock ∨ (Value.slice A' (l0.length + n) c').ownBlock = some w.heap.size) → wpList P ops Q rest (a.put o.dst (.slice A' (l0.length + n) c')) w') : wpList P ops Q (o :: rest) a w := by
  refine wpList_plain hgd fun K hK => ?_
  obtain ⟨v', w', hrun, r1, r2, r3⟩ := run_app_e hP w o.type base v l0 hown B A n c l hr hb hbase
  obtain ⟨A', c', rfl, _⟩ := r1.form
  rw [List.length_append, hr.1] at hrun r1 r3
  unfold Oper.wp execOp
  simp only [ho, resolve, invoke, builtin, Sem.run_bind, Sem.run_pure, Result.andThen_ok, List.map_toArray, List.map_cons, List.map_nil, hs, hx, hrun]
  exact hK _ _ (h A' c' w' r1 r2 r3)
theorem step_app_e {K : Act → World → Prop} {E : Prop} (hP : ElP P f t e k bytes) (w : World) (hgd : o.guard = none) (s x : Operand) (ho : o.op = .call { callee := .builtin .append, args := #[s, x], argTypes := #[t, t] })
    (base : Nat) (v : Value) (l0 : List α) (hs : a.eval s = v) (hown : Ew f e k w base v l0) (B : Nat) (A : Option Addr) (n c : Nat) (l : List α) (hx : a.eval x = .slice A n c) (hr : RS f k w B A n l) (hb : l0.length + n ≤ 1000000) (hbase : base ≤ w.heap.size)
    (h : ∀ A' c' w', Ew f e k w' base (.slice A' (l0.length + n) c') (l0 ++ l) → w.grownBy w' v.ownBlock → ((Value.slice A' (l0.length + n) c').ownBlock = v.ownBlock ∨ (Value.slice A' (l0.length + n) c').ownBlock = some w.heap.size) → K (a.put o.dst (.slice A' (l0.length + n) c')) w') :
    if Region.wanted o (yielded ops a.tmps) = true then Oper.wp P o a w K Q else E := by
  have hw : Region.wanted o (yielded ops a.tmps) = true := by simp [Region.wanted, hgd]
  rw [if_pos hw]
  obtain ⟨v', w', hrun, r1, r2, r3⟩ := run_app_e hP w o.type base v l0 hown B A n c l hr hb hbase
  obtain ⟨A', c', rfl, _⟩ := r1.form
  rw [List.length_append, hr.1] at hrun r1 r3
  unfold Oper.wp execOp
  simp only [ho, resolve, invoke, builtin, Sem.run_bind, Sem.run_pure, Result.andThen_ok, List.map_toArray, List.map_cons, List.map_nil, hs, hx, hrun]
  exact h A' c' w' r1 r2 r3
end
end Go.Own.Cm
namespace Go.Proofs.Ytcjcpkjdhagofaa
open Go.RowKit Go.Own Go.Own.Cm Go.Shelf
theorem infoE {t : TypeId} {z : Value} {k b : Nat} (h : (Try.prog.info? t).map (fun i => (i.zero, i.size, i.bytes)) = some (some z, k, b)) (hz : z.cells.size = k) : ∃ i z, Try.prog.info? t = some i ∧ i.zero = some z ∧ i.size = k ∧ i.bytes = b ∧ z.cells.size = k := by
  obtain ⟨i, h1, h2, h3, h4⟩ := info_parts h
  exact ⟨i, z, h1, h2, h3, h4, hz⟩
theorem elFld : ElP Try.prog FldV.cells 43 42 10 96 :=
  ⟨Try.underlying43, infoE (z := .agg #[.string ⟨#[]⟩, .string ⟨#[]⟩, .string ⟨#[]⟩, .string ⟨#[]⟩, .int .i64 0, .int .i64 0, .int .i64 0, .bool false, .bool false, .bool false]) (by kernel_rfl) rfl, fun _ => rfl, fun x u hu => by simp [FldV.cells] at hu; rcases hu with rfl | rfl | rfl | rfl | rfl | rfl | rfl | rfl | rfl | rfl <;> rfl, by omega, by omega⟩
theorem elEv : ElP Try.prog EvV.cells 52 57 2 24 :=
  ⟨Try.underlying52, infoE (z := .agg #[.string ⟨#[]⟩, .int .i64 0]) (by kernel_rfl) rfl, fun _ => rfl, fun x u hu => by simp [EvV.cells] at hu; rcases hu with rfl | rfl <;> rfl, by omega, by omega⟩
theorem elBrkC : ElP Try.prog BrkV.cells 35 46 5 56 :=
  ⟨Try.underlying35, infoE (z := .agg #[.string ⟨#[]⟩, .string ⟨#[]⟩, .int .i64 0, .int .i64 0, .bool false]) (by kernel_rfl) rfl, fun _ => rfl, fun x u hu => by simp [BrkV.cells] at hu; rcases hu with rfl | rfl | rfl | rfl | rfl <;> rfl, by omega, by omega⟩
theorem elBrkL : ElP Try.prog BrkV.cells 62 46 5 56 :=
  ⟨Try.underlying62, infoE (z := .agg #[.string ⟨#[]⟩, .string ⟨#[]⟩, .int .i64 0, .int .i64 0, .bool false]) (by kernel_rfl) rfl, fun _ => rfl, fun x u hu => by simp [BrkV.cells] at hu; rcases hu with rfl | rfl | rfl | rfl | rfl <;> rfl, by omega, by omega⟩
theorem elBrkR : ElP Try.prog BrkV.cells 29 32 5 56 :=
  ⟨Try.underlying29, infoE (z := .agg #[.string ⟨#[]⟩, .string ⟨#[]⟩, .int .i64 0, .int .i64 0, .bool false]) (by kernel_rfl) rfl, fun _ => rfl, fun x u hu => by simp [BrkV.cells] at hu; rcases hu with rfl | rfl | rfl | rfl | rfl <;> rfl, by omega, by omega⟩
end Go.Proofs.Ytcjcpkjdhagofaa
