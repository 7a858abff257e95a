/-
  Lists of bytes of one's own; steps of a region that draws its order; what is left as it was beside two blocks. No program.
-/
import Derived.Test.YtoafmhbgbofgoaaGreatDoorMid
import Derived.Test.YtoafmhbgbofgoaaGreatDoorG1
import Derived.Laws.BitsAllLaws
import Derived.Laws.BitsLemmas
namespace Go.Own
open Go.RowKit
theorem or_lo (i a b : Nat) (h : b < 2 ^ i) : 2 ^ i * a ||| b = 2 ^ i * a + b := (Nat.two_pow_add_eq_or_of_lt h a).symm
theorem or4 (b1 b2 b3 b4 : Nat) (h2 : b2 < 256) (h3 : b3 < 256) (h4 : b4 < 256) : ((b1 * 16777216 ||| b2 * 65536) ||| b3 * 256) ||| b4 = b1 * 16777216 + b2 * 65536 + b3 * 256 + b4 := by
  have e1 := or_lo 24 b1 (b2 * 65536) (by omega)
  have e2 := or_lo 16 (b1 * 256 + b2) (b3 * 256) (by omega)
  have e3 := or_lo 8 ((b1 * 256 + b2) * 256 + b3) b4 (by omega)
  rw [show b1 * 16777216 = 2 ^ 24 * b1 by omega, e1, show 2 ^ 24 * b1 + b2 * 65536 = 2 ^ 16 * (b1 * 256 + b2) by omega, e2, show 2 ^ 16 * (b1 * 256 + b2) + b3 * 256 = 2 ^ 8 * ((b1 * 256 + b2) * 256 + b3) by omega, e3]
theorem ofInt_i64 (a : Nat) (ha : a < 9223372036854775808) : (BitVec.ofInt 64 (a : Int)).toNat = a := by
  rw [BitVec.ofInt_natCast, BitVec.toNat_ofNat]; exact Nat.mod_eq_of_lt (by omega)
theorem i64_or_nat (a b : Nat) (ha : a < 9223372036854775808) (hb : b < 9223372036854775808) : bits .or .i64 (a : Int) (b : Int) = ((a ||| b : Nat) : Int) := by
  have hx : a ||| b < 2 ^ 63 := Nat.or_lt_two_pow (by omega) (by omega)
  show IntKind.i64.wrap ((BitVec.ofInt 64 (a : Int) ||| BitVec.ofInt 64 (b : Int)).toNat : Int) = _
  rw [BitVec.toNat_or, ofInt_i64 a ha, ofInt_i64 b hb, IntKind.wrap_i64]
  omega
theorem bits4 (b1 b2 b3 b4 : Nat) (h1 : b1 < 256) (h2 : b2 < 256) (h3 : b3 < 256) (h4 : b4 < 256) :
    bits .or .i64 (bits .or .i64 (bits .or .i64 ((b1 : Int) * 16777216) ((b2 : Int) * 65536)) ((b3 : Int) * 256)) (b4 : Int) = ((b1 * 16777216 + b2 * 65536 + b3 * 256 + b4 : Nat) : Int) := by
  have l1 : b1 * 16777216 ||| b2 * 65536 < 2 ^ 40 := Nat.or_lt_two_pow (by omega) (by omega)
  have l2 : b1 * 16777216 ||| b2 * 65536 ||| b3 * 256 < 2 ^ 40 := Nat.or_lt_two_pow l1 (by omega)
  rw [show (b1 : Int) * 16777216 = ((b1 * 16777216 : Nat) : Int) by omega, show (b2 : Int) * 65536 = ((b2 * 65536 : Nat) : Int) by omega, show (b3 : Int) * 256 = ((b3 * 256 : Nat) : Int) by omega,
    i64_or_nat _ _ (by omega) (by omega), i64_or_nat _ _ (by omega) (by omega), i64_or_nat _ _ (by omega) (by omega), or4 _ _ _ _ h2 h3 h4]

/-- All blocks but g and that of the row fb are as they were. -/
structure Kept2 (w w' : World) (g : Nat) (fb : Option Nat) : Prop where
  os : w'.os = w.os
  tape : w'.tape = w.tape
  output : w'.output = w.output
  size : w.heap.size ≤ w'.heap.size
  block : ∀ i, i < w.heap.size → i ≠ g → some i ≠ fb → w'.heap[i]? = w.heap[i]?

/-- Blocks of bytes, one behind the other, from H on. -/
def Bks (w : World) (H : Nat) (e : TypeId) : List Nat → List (List UInt8) → Prop
  | [], [] => True
  | g :: gs, l :: ls => H ≤ g ∧ Blk w g e (l.map bv).toArray ∧ (∀ k ∈ gs, g < k) ∧ Bks w H e gs ls
  | _, _ => False
theorem Bks.len {w : World} {H : Nat} {e : TypeId} : ∀ {gs : List Nat} {ls : List (List UInt8)}, Bks w H e gs ls → gs.length = ls.length
  | [], [], _ => rfl
  | _ :: _, _ :: _, h => by simp [Bks.len h.2.2.2]
  | [], _ :: _, h => h.elim
  | _ :: _, [], h => h.elim
theorem Bks.keep {w w' : World} {H : Nat} {e : TypeId} : ∀ {gs : List Nat} {ls : List (List UInt8)}, Bks w H e gs ls → (∀ k ∈ gs, w'.heap[k]? = w.heap[k]?) → Bks w' H e gs ls
  | [], [], _, _ => trivial
  | g :: _, _ :: _, h, hk => ⟨h.1, (hk g (by simp)).trans h.2.1, h.2.2.1, Bks.keep h.2.2.2 fun k hm => hk k (by simp [hm])⟩
  | [], _ :: _, h, _ => h.elim
  | _ :: _, [], h, _ => h.elim
theorem Bks.lt {w : World} {H : Nat} {e : TypeId} : ∀ {gs : List Nat} {ls : List (List UInt8)}, Bks w H e gs ls → ∀ k ∈ gs, H ≤ k ∧ k < w.heap.size
  | [], [], _, k, hk => by cases hk
  | g :: gs, _ :: _, h, k, hk => by
    rcases List.mem_cons.1 hk with rfl | hk
    · exact ⟨h.1, Blk.lt h.2.1⟩
    · exact Bks.lt h.2.2.2 k hk
  | [], _ :: _, h, _, _ => h.elim
  | _ :: _, [], h, _, _ => h.elim
theorem Bks.grown {w w' : World} {H : Nat} {e : TypeId} {gs : List Nat} {ls : List (List UInt8)} {row : Option Nat} (h : Bks w H e gs ls) (hg : w.grownBy w' row) (hr : ∀ k ∈ gs, some k ≠ row) : Bks w' H e gs ls :=
  h.keep fun k hk => hg.block k (h.lt k hk).2 (hr k hk)
theorem Bks.snoc {w : World} {H : Nat} {e : TypeId} {g : Nat} {l : List UInt8} : ∀ {gs : List Nat} {ls : List (List UInt8)}, Bks w H e gs ls → H ≤ g → Blk w g e (l.map bv).toArray → (∀ k ∈ gs, k < g) → Bks w H e (gs ++ [g]) (ls ++ [l])
  | [], [], _, h1, h2, _ => ⟨h1, h2, by simp, trivial⟩
  | g' :: gs, _ :: _, h, h1, h2, h3 => ⟨h.1, h.2.1, fun k hk => by
      rcases List.mem_append.1 hk with hk | hk
      · exact h.2.2.1 k hk
      · obtain rfl : k = g := by simpa using hk
        exact h3 g' (by simp), Bks.snoc h.2.2.2 h1 h2 fun k hk => h3 k (by simp [hk])⟩
  | [], _ :: _, h, _, _, _ => h.elim
  | _ :: _, [], h, _, _, _ => h.elim
/-- The values of such blocks. -/
def rows : List Nat → List (List UInt8) → List Value
  | g :: gs, l :: ls => .slice (some ⟨g, 0, none⟩) l.length l.length :: rows gs ls
  | _, _ => []
theorem rows_snoc (g : Nat) (l : List UInt8) : ∀ (gs : List Nat) (ls : List (List UInt8)), gs.length = ls.length → rows (gs ++ [g]) (ls ++ [l]) = rows gs ls ++ [.slice (some ⟨g, 0, none⟩) l.length l.length]
  | [], [], _ => rfl
  | _ :: gs, _ :: ls, h => by simp [rows, rows_snoc g l gs ls (by simpa using h)]
  | [], _ :: _, h => by simp at h
  | _ :: _, [], h => by simp at h
theorem rows_len : ∀ (gs : List Nat) (ls : List (List UInt8)), gs.length = ls.length → (rows gs ls).length = gs.length
  | [], [], _ => rfl
  | _ :: gs, _ :: ls, h => by simp [rows, rows_len gs ls (by simpa using h)]
  | [], _ :: _, h => by simp at h
  | _ :: _, [], h => by simp at h
theorem rows_one : ∀ (gs : List Nat) (ls : List (List UInt8)), ∀ u ∈ rows gs ls, u.oneCell' = true
  | g :: gs, l :: ls, u, hu => by
    rcases List.mem_cons.1 hu with rfl | hu
    · rfl
    · exact rows_one gs ls u hu
  | [], [], u, hu => by cases hu
  | [], _ :: _, u, hu => by cases hu
  | _ :: _, [], u, hu => by cases hu

/-- Bytes at the head of a block of just that length. -/
theorem Ow.blk {w : World} {base g n : Nat} {e : TypeId} {l : List UInt8} (h : Ow w base e (.slice (some ⟨g, 0, none⟩) n n) n l) : Blk w g e (l.map bv).toArray ∧ base ≤ g := by
  rcases h.2 with ⟨hv, _⟩ | ⟨g', cap, cur, hv, hb, hh, hn, hm, hs, ht⟩
  · cases hv
  · injection hv with hv _ hc
    injection hv with hv
    injection hv with hv
    subst hv hc
    refine ⟨?_, hb⟩
    have hl := h.1
    have e1 : cur = (l.map bv).toArray := by
      apply Array.ext'
      have h2 : cur.toList.length = n := by simpa using hs
      rw [← ht, Nat.mul_one, List.take_of_length_le (by omega)]
    unfold Blk
    rw [← e1]
    exact hh
theorem Blk.ow {w : World} {base g : Nat} {e : TypeId} {l : List UInt8} (h : Blk w g e (l.map bv).toArray) (hb : base ≤ g) (hl : l.length ≤ maxLen) : Ow w base e (.slice (some ⟨g, 0, none⟩) l.length l.length) l.length l := by
  refine ⟨by simp, .inr ⟨g, l.length, _, rfl, hb, h, Nat.le_refl _, hl, by simp, by simp [List.take_of_length_le]⟩⟩

section
variable {P : Program} (w : World)
/-- A step of a region that draws its order: append within the capacity. -/
theorem step_app_fits {ops : Array Oper} {o : Oper} {a : Act} {K : Act → World → Prop} {Q : Exit → Act → World → Prop} {E : Prop} {t e : TypeId} (hP : ByteP P t e) (hgd : o.guard = none) (s x : Operand)
    (ho : o.op = .call { callee := .builtin .append, args := #[s, x], argTypes := #[t, t] })
    (base g k cap : Nat) (xs : List UInt8) (hs : a.eval s = .slice (some ⟨g, 0, none⟩) k cap) (hown : Ow w base e (.slice (some ⟨g, 0, none⟩) k cap) k xs)
    (B : Nat) (A : Option Addr) (m c : Nat) (l : List UInt8) (hx : a.eval x = .slice A m c) (hr : Rd w B A m l) (b1 : k + m ≤ cap)
    (h : ∀ w', Ow w' base e (.slice (some ⟨g, 0, none⟩) (k + m) cap) (k + m) (xs ++ l) → w.grownBy w' (some g) → K (a.put o.dst (.slice (some ⟨g, 0, none⟩) (k + m) cap)) w') :
    if Region.wanted o (yielded ops a.tmps) = true then Oper.wp P o a w K Q else E := by
  have hw : Region.wanted o (yielded ops a.tmps) = true := by simp [Region.wanted, hgd]
  rw [if_pos hw]
  obtain ⟨w', hrun, r1, r2⟩ := run_app_fits (P := P) w hP o.type base g k cap xs hown B A m c l hr b1
  unfold Oper.wp execOp
  simp only [ho, resolve, invoke, builtin, Sem.run_bind, Sem.run_pure, Result.andThen_ok, List.map_toArray, List.map_cons, List.map_nil, hs, hx, hrun]
  exact h w' r1 r2
end

/-- The slice type t over rows e that are slices, in a program. -/
structure RowP (P : Program) (t e : TypeId) : Prop where
  slice : P.underlying t = some (.slice e)
  info : ∃ i, P.info? e = some i ∧ i.zero = some (.slice none 0 0) ∧ i.size = 1 ∧ i.bytes = 24

section
variable {P : Program} (w : World)
/-- append of values of one cell onto a row of one's own. -/
theorem run_app_rows {t e : TypeId} (hP : RowP P t e) (ty : TypeId) (base : Nat) (v : Value) (n : Nat) (xs : List Value) (hown : w.ownsRow base e 1 v n xs) (ad : Addr) (m c : Nat) (news : List Value) (hl : news.length = m)
    (hnews : ∀ j u, news[j]? = some u → w.cell? (ad.add j) = some u) (h1 : ∀ u ∈ news, u.oneCell' = true) (hb : n + m ≤ 1000000000000) (hbase : base ≤ w.heap.size) :
    ∃ v' w', (Builtin.append_ #[t, t] ty #[v, .slice (some ad) m c]).run P w = .ok v' w' ∧ w'.ownsRow base e 1 v' (n + m) (xs ++ news) ∧ w.grownBy w' v.ownBlock ∧ (v'.ownBlock = v.ownBlock ∨ v'.ownBlock = some w.heap.size) := by
  obtain ⟨i, hi, hz, h2, h3⟩ := hP.info
  obtain ⟨v', w', hrun, r1, r2, _, r4⟩ := run_append_own_at (P := P) w base t ty e i (.slice none 0 0) 1 24 hP.slice hi hz h2 h3 rfl (by omega) v n xs hown ad m c news (by simpa using hl) hnews h1 (by simp only [maxLen]; omega) (by omega) hbase
  exact ⟨v', w', hrun, r1, r2, r4⟩
theorem step_app_rows {ops : Array Oper} {o : Oper} {a : Act} {K : Act → World → Prop} {Q : Exit → Act → World → Prop} {E : Prop} {t e : TypeId} (hP : RowP P t e) (hgd : o.guard = none) (s x : Operand)
    (ho : o.op = .call { callee := .builtin .append, args := #[s, x], argTypes := #[t, t] })
    (base : Nat) (v : Value) (n : Nat) (xs : List Value) (hs : a.eval s = v) (hown : w.ownsRow base e 1 v n xs) (ad : Addr) (m c : Nat) (news : List Value) (hx : a.eval x = .slice (some ad) m c) (hl : news.length = m)
    (hnews : ∀ j u, news[j]? = some u → w.cell? (ad.add j) = some u) (h1 : ∀ u ∈ news, u.oneCell' = true) (hb : n + m ≤ 1000000000000) (hbase : base ≤ w.heap.size)
    (h : ∀ v' w', w'.ownsRow base e 1 v' (n + m) (xs ++ news) → w.grownBy w' v.ownBlock → (v'.ownBlock = v.ownBlock ∨ v'.ownBlock = some w.heap.size) → K (a.put o.dst v') w') :
    if Region.wanted o (yielded ops a.tmps) = true then Oper.wp P o a w K Q else E := by
  have hw : Region.wanted o (yielded ops a.tmps) = true := by simp [Region.wanted, hgd]
  rw [if_pos hw]
  obtain ⟨v', w', hrun, r1, r2, r3⟩ := run_app_rows (P := P) w hP o.type base v n xs hown ad m c news hl hnews h1 hb hbase
  unfold Oper.wp execOp
  simp only [ho, resolve, invoke, builtin, Sem.run_bind, Sem.run_pure, Result.andThen_ok, List.map_toArray, List.map_cons, List.map_nil, hs, hx, hrun]
  exact h v' w' r1 r2 r3
theorem wpList_app_rows {ops : Array Oper} {rest : List Oper} {o : Oper} {a : Act} {Q : Exit → Act → World → Prop} {t e : TypeId} (hP : RowP P t e) (hgd : o.guard = none) (s x : Operand)
    (ho : o.op = .call { callee := .builtin .append, args := #[s, x], argTypes := #[t, t] })
    (base : Nat) (v : Value) (n : Nat) (xs : List Value) (hs : a.eval s = v) (hown : w.ownsRow base e 1 v n xs) (ad : Addr) (m c : Nat) (news : List Value) (hx : a.eval x = .slice (some ad) m c) (hl : news.length = m)
    (hnews : ∀ j u, news[j]? = some u → w.cell? (ad.add j) = some u) (h1 : ∀ u ∈ news, u.oneCell' = true) (hb : n + m ≤ 1000000000000) (hbase : base ≤ w.heap.size)
    (h : ∀ v' w', w'.ownsRow base e 1 v' (n + m) (xs ++ news) → w.grownBy w' v.ownBlock → (v'.ownBlock = v.ownBlock ∨ v'.ownBlock = some w.heap.size) → wpList P ops Q rest (a.put o.dst v') w') :
    wpList P ops Q (o :: rest) a w := by
  refine wpList_plain hgd fun K hK => ?_
  obtain ⟨v', w', hrun, r1, r2, r3⟩ := run_app_rows (P := P) w hP o.type base v n xs hown ad m c news hl hnews h1 hb hbase
  unfold Oper.wp execOp
  simp only [ho, resolve, invoke, builtin, Sem.run_bind, Sem.run_pure, Result.andThen_ok, List.map_toArray, List.map_cons, List.map_nil, hs, hx, hrun]
  exact hK _ _ (h v' w' r1 r2 r3)
/-- append onto bytes of one's own in the midst of a block. -/
theorem wpList_app_mid {ops : Array Oper} {rest : List Oper} {o : Oper} {a : Act} {Q : Exit → Act → World → Prop} {t e : TypeId} (hP : ByteP P t e) (hgd : o.guard = none) (s x : Operand)
    (ho : o.op = .call { callee := .builtin .append, args := #[s, x], argTypes := #[t, t] })
    (base : Nat) (v : Value) (n : Nat) (l : List UInt8) (hs : a.eval s = v) (hown : Om w base v n l) (hbase : base ≤ w.heap.size) (A : Option Addr) (m c B : Nat) (ys : List UInt8) (hx : a.eval x = .slice A m c) (hr : Rd w B A m ys) (hb : n + m ≤ 100000000000000)
    (h : ∀ A' cap' w', Om w' base (.slice A' (n + m) cap') (n + m) (l ++ ys) → w.grownBy w' v.ownBlock → ((Value.slice A' (n + m) cap').ownBlock = v.ownBlock ∨ ∃ g, (Value.slice A' (n + m) cap').ownBlock = some g ∧ w.heap.size ≤ g) → n + m ≤ cap' → wpList P ops Q rest (a.put o.dst (.slice A' (n + m) cap')) w') :
    wpList P ops Q (o :: rest) a w := by
  refine wpList_plain hgd fun K hK => ?_
  obtain ⟨v', w', hrun, r1, r2, r3⟩ := run_app_mid (P := P) hP o.type base v n l hown hbase A m c B ys hr hb
  obtain ⟨A', cap', rfl, h1, _⟩ := r1.form
  unfold Oper.wp execOp
  simp only [ho, resolve, invoke, builtin, Sem.run_bind, Sem.run_pure, Result.andThen_ok, List.map_toArray, List.map_cons, List.map_nil, hs, hx, hrun]
  exact hK _ _ (h A' cap' w' r1 r2 r3 h1)
end

/-- A row of one's own is kept where another one has grown. -/
theorem own_grown {w w' : World} {base n : Nat} {e : TypeId} {v : Value} {xs : List Value} {row : Option Nat} (h : w.ownsRow base e 1 v n xs) (hg : w.grownBy w' row) (hne : ∀ b, v.ownBlock = some b → some b ≠ row) : w'.ownsRow base e 1 v n xs := by
  rcases h.2 with ⟨rfl, rfl⟩ | ⟨g, cap, cur, rfl, hb, hh, hn, hm, hs, ht⟩
  · exact ⟨h.1, .inl ⟨rfl, rfl⟩⟩
  · have hlt : g < w.heap.size := by
      rcases Nat.lt_or_ge g w.heap.size with hlt | hge
      · exact hlt
      · rw [Array.getElem?_eq_none hge] at hh; cases hh
    exact ⟨h.1, .inr ⟨g, cap, cur, rfl, hb, (hg.block g hlt (hne g rfl)).trans hh, hn, hm, hs, ht⟩⟩
theorem own_lt {w : World} {base n : Nat} {e : TypeId} {v : Value} {xs : List Value} (h : w.ownsRow base e 1 v n xs) {g : Nat} (hv : v.ownBlock = some g) : g < w.heap.size ∧ base ≤ g := by
  rcases h.2 with ⟨rfl, rfl⟩ | ⟨g', cap, cur, rfl, hb', hh, hn, hm, hs, ht⟩
  · simp [Value.ownBlock] at hv
  · have : g' = g := by simpa [Value.ownBlock] using hv
    subst this
    refine ⟨?_, hb'⟩
    rcases Nat.lt_or_ge g' w.heap.size with hlt | hge
    · exact hlt
    · rw [Array.getElem?_eq_none hge] at hh; cases hh
theorem Blk.ne_ {w : World} {g g' : Nat} {t t' : TypeId} {cs cs' : Array Value} (h : Blk w g t cs) (h' : Blk w g' t' cs') (hne : t ≠ t') : g ≠ g' := by
  rintro rfl
  unfold Blk at h h'
  rw [h] at h'
  injection h' with h'
  injection h' with _ ht
  exact hne ht
theorem own_blk_ne {w : World} {base n g : Nat} {e t : TypeId} {v : Value} {xs : List Value} {cs : Array Value} (h : w.ownsRow base e 1 v n xs) (hg : Blk w g t cs) (hne : e ≠ t) : v.ownBlock ≠ some g := by
  rcases h.2 with ⟨rfl, _⟩ | ⟨g', cap, cur, rfl, _, hh, _⟩
  · simp [Value.ownBlock]
  · intro he
    have : g' = g := by simpa [Value.ownBlock] using he
    subst this
    exact Blk.ne_ (t := e) hh hg hne rfl
theorem Bks.lower {w : World} {H H' : Nat} {e : TypeId} : ∀ {gs : List Nat} {ls : List (List UInt8)}, Bks w H e gs ls → H' ≤ H → Bks w H' e gs ls
  | [], [], _, _ => trivial
  | _ :: _, _ :: _, h, hl => ⟨Nat.le_trans hl h.1, h.2.1, h.2.2.1, Bks.lower h.2.2.2 hl⟩
  | [], _ :: _, h, _ => h.elim
  | _ :: _, [], h, _ => h.elim
theorem Bks.apart {w : World} {H base n : Nat} {e t : TypeId} {v : Value} {xs : List Value} (ho : w.ownsRow base t 1 v n xs) (hne : t ≠ e) : ∀ {gs : List Nat} {ls : List (List UInt8)}, Bks w H e gs ls → ∀ k ∈ gs, some k ≠ v.ownBlock
  | [], [], _, k, hk => by cases hk
  | g :: gs, _ :: _, h, k, hk => by
    rcases List.mem_cons.1 hk with rfl | hk
    · exact Ne.symm (own_blk_ne ho h.2.1 hne)
    · exact Bks.apart ho hne h.2.2.2 k hk
  | [], _ :: _, h, _, _ => h.elim
  | _ :: _, [], h, _, _ => h.elim
theorem Bks.apart_blk {w : World} {H g : Nat} {e t : TypeId} {cs : Array Value} (hb : Blk w g t cs) (hne : t ≠ e) : ∀ {gs : List Nat} {ls : List (List UInt8)}, Bks w H e gs ls → ∀ k ∈ gs, k ≠ g
  | [], [], _, k, hk => by cases hk
  | g' :: gs, _ :: _, h, k, hk => by
    rcases List.mem_cons.1 hk with rfl | hk
    · exact Ne.symm (Blk.ne_ hb h.2.1 hne)
    · exact Bks.apart_blk hb hne h.2.2.2 k hk
  | [], _ :: _, h, _, _ => h.elim
  | _ :: _, [], h, _, _ => h.elim
theorem own_lower {w : World} {base base' n : Nat} {e : TypeId} {v : Value} {xs : List Value} (h : w.ownsRow base e 1 v n xs) (hb : base' ≤ base) : w.ownsRow base' e 1 v n xs := by
  rcases h.2 with ⟨rfl, rfl⟩ | ⟨g, cap, cur, rfl, hb', r⟩
  · exact ⟨h.1, .inl ⟨rfl, rfl⟩⟩
  · exact ⟨h.1, .inr ⟨g, cap, cur, rfl, Nat.le_trans hb hb', r⟩⟩
theorem far_cell {w w' : World} {row : Option Nat} {g o : Nat} {u : Value} (hg : w.grownBy w' row) (hlt : g < w.heap.size) (hne : some g ≠ row) (h : w.cell? ⟨g, o, none⟩ = some u) : w'.cell? ⟨g, o, none⟩ = some u :=
  (World.cell?_of_block (hg.block g hlt hne)).trans h
end Go.Own
