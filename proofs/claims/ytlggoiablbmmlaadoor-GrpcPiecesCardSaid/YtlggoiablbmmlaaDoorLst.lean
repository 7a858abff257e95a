/-
  Lists of messages that came in, lists of numbers that came in; parleyref.SameLists.
-/
import Derived.Test.YtlggoiablbmmlaaDoorFst
import Derived.Test.YtlggoiablbmmlaaDoorGow
import Derived.Test.YtlggoiablbmmlaaDoorBytes
import Derived.Deep.Slices
import Derived.ProofKit
import Derived.OpenShut
namespace Go.Own
open Go.ChangeShapes Go.WideShapes Go.ChangeAt Go.RowKit
/-- The slice at A of n slices of bytes reads as ms, below block B. -/
def Rl (w : World) (B : Nat) (A : Option Addr) (n : Nat) (ms : List (List UInt8)) : Prop :=
  ms.length = n ∧ (0 < n → ∃ ad, A = some ad ∧ ad.block < B ∧ ∀ j, j < n → ∃ Aj cj, w.cell? (ad.add j) = some (.slice Aj (ms.getD j []).length cj) ∧ Rd w B Aj (ms.getD j []).length (ms.getD j []) ∧ (ms.getD j []).length ≤ cj)
theorem Rl.below {w w' : World} {B n : Nat} {A : Option Addr} {ms : List (List UInt8)} (h : Rl w B A n ms) (hb : Below B w w') : Rl w' B A n ms :=
  ⟨h.1, fun hn => by
    obtain ⟨ad, e, hlt, hc⟩ := h.2 hn
    exact ⟨ad, e, hlt, fun j hj => by
      obtain ⟨Aj, cj, h1, h2, h3⟩ := hc j hj
      exact ⟨Aj, cj, (hb.cell (by rw [add_block]; exact hlt)).trans h1, h2.below hb, h3⟩⟩⟩
theorem Rl.at_ {w : World} {B n k : Nat} {A : Option Addr} {ms : List (List UInt8)} (h : Rl w B A n ms) (hk : k < n) : ∃ ad, A = some ad ∧ ∃ Aj cj, w.cell? (ad.add k) = some (.slice Aj (ms.getD k []).length cj) ∧ Rd w B Aj (ms.getD k []).length (ms.getD k []) ∧ (ms.getD k []).length ≤ cj := by
  obtain ⟨ad, e, _, hc⟩ := h.2 (by omega)
  exact ⟨ad, e, hc k hk⟩
/-- The slice at A of n numbers reads as zs, below block B. -/
def Ri (w : World) (B : Nat) (A : Option Addr) (n : Nat) (zs : List Int) : Prop :=
  zs.length = n ∧ (0 < n → ∃ ad, A = some ad ∧ ad.block < B ∧ ∀ j, j < n → w.cell? (ad.add j) = some (.int .i64 (zs.getD j 0)))
theorem Ri.below {w w' : World} {B n : Nat} {A : Option Addr} {zs : List Int} (h : Ri w B A n zs) (hb : Below B w w') : Ri w' B A n zs :=
  ⟨h.1, fun hn => by
    obtain ⟨ad, e, hlt, hc⟩ := h.2 hn
    exact ⟨ad, e, hlt, fun j hj => (hb.cell (by rw [add_block]; exact hlt)).trans (hc j hj)⟩⟩
theorem Ri.at_ {w : World} {B n k : Nat} {A : Option Addr} {zs : List Int} (h : Ri w B A n zs) (hk : k < n) : ∃ ad, A = some ad ∧ w.cell? (ad.add k) = some (.int .i64 (zs.getD k 0)) := by
  obtain ⟨ad, e, _, hc⟩ := h.2 (by omega)
  exact ⟨ad, e, hc k hk⟩
theorem i64_and31 (n : Int) : bits .and .i64 n 31 = n % 32 := by
  have h127 : (BitVec.ofInt 64 31).toNat = 2 ^ 5 - 1 := by decide
  have key : (BitVec.ofInt 64 n &&& BitVec.ofInt 64 31).toNat = (n % ((2 ^ 64 : Nat) : Int)).toNat % 2 ^ 5 := by
    rw [BitVec.toNat_and, BitVec.toNat_ofInt, h127, Nat.and_two_pow_sub_one_eq_mod]
  show IntKind.i64.wrap ((BitVec.ofInt 64 n &&& BitVec.ofInt 64 31).toNat : Nat) = n % 32
  rw [key, IntKind.wrap_i64]
  omega
section
variable {H : Type} {enc : TypeId × Value → H} {P : Program} {W : World} {base : Nat} {spare : Nat → Bool} {held : Bool}
theorem ri_of_trod {t e : TypeId} {a : Option Addr} {len cap : Nat} {d : DataW H} {p : List MemPlace}
    (ht : P.underlying t = some (.slice e)) (he : P.underlying e = some (.int .i64)) (hc : P.cellsOf e = 1) (h : DataW.Trod enc P W base spare held t (.slice a len cap) d p) :
    ∃ zs, Ri W W.heap.size a len zs ∧ len ≤ cap := by
  obtain ⟨fuel, hf⟩ := h
  rcases open_ints ht he hc hf with ⟨hcs, _⟩ | ⟨x, l, c, zs, hcs, _, hl, hm, hz, _, hcell, hwz⟩
  · simp [Value.cells] at hcs
    obtain ⟨rfl, rfl, rfl⟩ := hcs
    exact ⟨[], ⟨rfl, fun h => absurd h (by omega)⟩, Nat.le_refl _⟩
  · simp [Value.cells] at hcs
    obtain ⟨rfl, rfl, rfl⟩ := hcs
    have hzl : len ≤ zs.length := by rw [hz]; split <;> omega
    refine ⟨zs.take len, ⟨by rw [List.length_take]; omega, fun hn => ⟨x, rfl, ?_, fun j hj => ?_⟩⟩, hl⟩
    · have h0 := hcell 0 (by omega)
      have := World.block_lt_of_cell? W _ h0
      rwa [add_block] at this
    · rw [hcell j (by omega)]
      simp [List.getD, hj]
theorem rl_of_trod {t e b : TypeId} {a : Option Addr} {len cap : Nat} {d : DataW H} {p : List MemPlace}
    (ht : P.underlying t = some (.slice e)) (he : P.underlying e = some (.slice b)) (hb : P.underlying b = some (.int .u8)) (hc : P.cellsOf e = 1) (hcb : P.cellsOf b = 1) (h : DataW.Trod enc P W base spare held t (.slice a len cap) d p) :
    ∃ ms, Rl W W.heap.size a len ms ∧ len ≤ cap := by
  obtain ⟨fuel, hf⟩ := h
  rcases Go.Deep.open_slice1 ht hc hf with ⟨hcs, _⟩ | ⟨x, l, c, m, n, V, D, Pl, hcs, _, hl, hm, hmm, _, hx⟩
  · simp [Value.cells] at hcs
    obtain ⟨rfl, rfl, rfl⟩ := hcs
    exact ⟨[], ⟨rfl, fun h => absurd h (by omega)⟩, Nat.le_refl _⟩
  · simp [Value.cells] at hcs
    obtain ⟨rfl, rfl, rfl⟩ := hcs
    have hle : len ≤ m := by rw [hmm]; split <;> omega
    have each : ∀ i, i < len → ∃ mi : List UInt8, ∃ Aj cj, W.cell? (x.add i) = some (.slice Aj mi.length cj) ∧ Rd W W.heap.size Aj mi.length mi ∧ mi.length ≤ cj := by
      intro i hi
      obtain ⟨h1, h2⟩ := hx i (by omega)
      obtain ⟨A', l', c', hv⟩ : ∃ A' l' c', V i = .slice A' l' c' := by
        rcases open_ints he hb hcb h2 with ⟨hcs, _⟩ | ⟨x', l', c', zs, hcs, _⟩
        · simp at hcs
          exact ⟨_, _, _, hcs⟩
        · simp at hcs
          exact ⟨_, _, _, hcs⟩
      rw [hv] at h1 h2
      obtain ⟨li, hr, hlc⟩ := rd_of_trod he hb hcb ⟨n, h2⟩
      have hlen := hr.len
      exact ⟨li, A', c', by rw [hlen]; exact h1, by rw [hlen]; exact hr, by omega⟩
    obtain ⟨M, hM⟩ := Go.Deep.choose_lt (α := List UInt8) each
    refine ⟨(List.range len).map M, ⟨by simp, fun hn => ⟨x, rfl, ?_, fun j hj => ?_⟩⟩, hl⟩
    · obtain ⟨_, _, h0, _⟩ := hM 0 hn
      have := World.block_lt_of_cell? W _ h0
      rwa [add_block] at this
    · have e1 : ((List.range len).map M).getD j [] = M j := by simp [List.getD, hj]
      rw [e1]
      exact hM j hj
end
/-- A row of one's own of lists of bytes, as a list. -/
theorem rl_of_rows {w : World} {base H n : Nat} {e t : TypeId} {A : Option Addr} {c : Nat} {gs : List Nat} {ms : List (List UInt8)} (h : w.ownsRow base t 1 (.slice A n c) n (rows gs ms)) (hb : Bks w H e gs ms) : Rl w w.heap.size A n ms := by
  have hl := hb.len
  have hn : ms.length = n := by
    have h0 : (rows gs ms).length = n * 1 := h.1
    rw [rows_len gs ms hl] at h0
    omega
  refine ⟨hn, fun h0 => ?_⟩
  obtain ⟨g, cs, rfl, hblk, _, _, _, hat⟩ := own_row h h0
  refine ⟨_, rfl, hblk.lt, fun j hj => ?_⟩
  have each : ∀ (gs : List Nat) (ms : List (List UInt8)) (j : Nat), Bks w H e gs ms → j < ms.length → ∃ gj, (rows gs ms)[j]? = some (.slice (some ⟨gj, 0, none⟩) (ms.getD j []).length (ms.getD j []).length) ∧ Rd w w.heap.size (some ⟨gj, 0, none⟩) (ms.getD j []).length (ms.getD j []) := by
    intro gs
    induction gs with
    | nil => intro ms j hb hj; cases ms with
      | nil => simp at hj
      | cons m ms => exact hb.elim
    | cons g gs ih => intro ms j hb hj; cases ms with
      | nil => exact hb.elim
      | cons m ms =>
        cases j with
        | zero => exact ⟨g, by simp [rows], by simpa using rd_blk hb.2.1 rfl⟩
        | succ j =>
          obtain ⟨gj, h1, h2⟩ := ih ms j hb.2.2.2 (by simpa using hj)
          exact ⟨gj, by simpa [rows] using h1, by simpa using h2⟩
  obtain ⟨gj, h1, h2⟩ := each gs ms j hb (by omega)
  exact ⟨_, _, by rw [Addr.add_lit, Nat.zero_add, hblk.cell]; exact hat j _ h1, h2, Nat.le_refl _⟩
theorem Bks.append {w : World} {H : Nat} {e : TypeId} : ∀ {gs : List Nat} {ls : List (List UInt8)} {gs' : List Nat} {ls' : List (List UInt8)}, Bks w H e gs ls → Bks w H e gs' ls' → (∀ k ∈ gs, ∀ k' ∈ gs', k < k') → Bks w H e (gs ++ gs') (ls ++ ls')
  | [], [], _, _, _, h', _ => h'
  | g :: gs, _ :: _, _, _, h, h', hk => ⟨h.1, h.2.1, fun k hm => by
      rcases List.mem_append.1 hm with hm | hm
      · exact h.2.2.1 k hm
      · exact hk g (by simp) k hm, Bks.append h.2.2.2 h' fun k hm => hk k (by simp [hm])⟩
  | [], _ :: _, _, _, h, _, _ => h.elim
  | _ :: _, [], _, _, h, _, _ => h.elim
theorem rows_append : ∀ (gs : List Nat) (ls : List (List UInt8)) (gs' : List Nat) (ls' : List (List UInt8)), gs.length = ls.length → rows (gs ++ gs') (ls ++ ls') = rows gs ls ++ rows gs' ls'
  | [], [], _, _, _ => rfl
  | _ :: gs, _ :: ls, gs', ls', h => by simp [rows, rows_append gs ls gs' ls' (by simpa using h)]
  | [], _ :: _, _, _, h => by simp at h
  | _ :: _, [], _, _, h => by simp at h
section
variable {P : Program} (w : World)
/-- append of a row of one's own, nil too, onto a row of one's own. -/
theorem run_app_own {t e : TypeId} (hP : RowP P t e) (ty : TypeId) (base base2 : Nat) (v : Value) (n : Nat) (xs : List Value) (hown : w.ownsRow base e 1 v n xs) (v2 : Value) (m : Nat) (news : List Value) (hown2 : w.ownsRow base2 e 1 v2 m news)
    (h1 : ∀ u ∈ news, u.oneCell' = true) (hb : n + m ≤ 1000000000000) (hbase : base ≤ w.heap.size) :
    ∃ v' w', (Builtin.append_ #[t, t] ty #[v, v2]).run P w = .ok v' w' ∧ w'.ownsRow base e 1 v' (n + m) (xs ++ news) ∧ w.grownBy w' v.ownBlock ∧ (v'.ownBlock = v.ownBlock ∨ v'.ownBlock = some w.heap.size) := by
  have hl : news.length = m := by have := hown2.1; omega
  rcases hown2.2 with ⟨rfl, rfl⟩ | ⟨g, cap, cur, rfl, hb2, hh, hn, hm, hs, ht⟩
  · obtain ⟨i, hi, hz, h2, h3⟩ := hP.info
    have hnil : news = [] := List.eq_nil_of_length_eq_zero hl
    subst hnil
    refine ⟨v, w, ?_, by simpa using hown, World.grownBy.refl w _, .inl rfl⟩
    rcases hown.2 with ⟨rfl, rfl⟩ | ⟨g, cap, cur, rfl, _, _, hnc, _⟩
    · simp [Builtin.append_, run_underlying hP.slice, sizeOf, typeInfo, hi, Builtin.lenOf, Builtin.firstCells]
    · simp [Builtin.append_, run_underlying hP.slice, sizeOf, typeInfo, hi, Builtin.lenOf, Builtin.firstCells, hnc, storeCells]
  · have hblk : Blk w g e cur := hh
    exact run_app_rows w hP ty base v n xs hown ⟨g, 0, none⟩ m cap news hl (fun j u hj => by
      rw [Addr.add_lit, Nat.zero_add, hblk.cell, ← Array.getElem?_toList]
      rw [← ht] at hj
      have := List.getElem?_take (l := cur.toList) (i := m * 1) (j := j)
      rw [this] at hj
      split at hj
      · exact hj
      · cases hj) h1 hb hbase
theorem wpList_app_own {ops : Array Oper} {rest : List Oper} {o : Oper} {a : Act} {Q : Exit → Act → World → Prop} {t e : TypeId} (hP : RowP P t e) (hgd : o.guard = none) (s x : Operand)
    (ho : o.op = .call { callee := .builtin .append, args := #[s, x], argTypes := #[t, t] })
    (base base2 : Nat) (v : Value) (n : Nat) (xs : List Value) (hs : a.eval s = v) (hown : w.ownsRow base e 1 v n xs) (v2 : Value) (m : Nat) (news : List Value) (hx : a.eval x = v2) (hown2 : w.ownsRow base2 e 1 v2 m news)
    (h1 : ∀ u ∈ news, u.oneCell' = true) (hb : n + m ≤ 1000000000000) (hbase : base ≤ w.heap.size)
    (h : ∀ v' w', w'.ownsRow base e 1 v' (n + m) (xs ++ news) → w.grownBy w' v.ownBlock → (v'.ownBlock = v.ownBlock ∨ v'.ownBlock = some w.heap.size) → wpList P ops Q rest (a.put o.dst v') w') :
    wpList P ops Q (o :: rest) a w := by
  refine wpList_plain hgd fun K hK => ?_
  obtain ⟨v', w', hrun, r1, r2, r3⟩ := run_app_own (P := P) w hP o.type base base2 v n xs hown v2 m news hown2 h1 hb hbase
  unfold Oper.wp execOp
  simp only [ho, resolve, invoke, builtin, Sem.run_bind, Sem.run_pure, Result.andThen_ok, List.map_toArray, List.map_cons, List.map_nil, hs, hx, hrun]
  exact hK _ _ (h v' w' r1 r2 r3)
end
end Go.Own
namespace Go.Proofs.YtlggoiablbmmlaaDoor
open Go.RowKit Go.Own Go.Own.Grpc
set_option maxHeartbeats 1000000 in
set_option maxRecDepth 100000 in
theorem sameLists_any (A A2 : Option Addr) (n c c2 : Nat) (ms : List (List UInt8)) (w : World) (B B2 : Nat) (hr : Rl w B A n ms) (hr2 : Rl w B2 A2 n ms) (hn : n ≤ 1000000000) :
    Calls Tryd.prog 12 #[.slice A n c, .slice A2 n c2] w fun e w' => e = .returned (.bool true) ∧ ∃ k, w' = w.drewN k := by
  have HR := Lib.hid hr
  have HR2 := Lib.hid hr2
  clear hr hr2
  go_enter Tryd.func12, Tryd.ntmps12
  go_wp2_with fail
  go_loopw [5] (fun i wr => ∃ j : Nat, j ≤ n ∧ i = .int .i64 j ∧ ∃ k, wr = w.drewN k) (fun i _ => n - (intOf i).toNat)
  case atStart => exact ⟨0, by omega, rfl, 0, rfl⟩
  case round =>
    obtain ⟨j, hj, rfl, k, rfl⟩ := hrel
    by_cases hjk : j < n
    · obtain ⟨ad, rfl, Aj, cj, q1, q2, _⟩ := HR.out.at_ hjk
      obtain ⟨ad2, rfl, Aj2, cj2, p1, p2, _⟩ := HR2.out.at_ hjk
      go_wp2_with fail
      go_region_held3 (fun w' => w'.cell? (ad.add j) = some (.slice Aj (ms.getD j []).length cj) ∧ w'.cell? (ad2.add j) = some (.slice Aj2 (ms.getD j []).length cj2)) (first | exact ⟨q1, p1⟩) (first
        | (go_simp; go_at_call 14; refine (sameBytes_any Aj Aj2 _ _ cj cj2 (ms.getD j []) (ms.getD j []) _ B B2 (by exact q2.drewN (k + 1)) (by exact p2.drewN (k + 1))).mono ?_; rintro e w2 ⟨rfl, rfl⟩; simp only [decide_true])
        | fail)
      all_goals
        go_wp2
        exact ⟨⟨j + 1, by omega, by go_num, k + 1, rfl⟩, by simp [intOf]; omega⟩
    · have hjn : j = n := by omega
      subst hjn
      go_wp2
      go_ret
      exact ⟨rfl, k, rfl⟩
end Go.Proofs.YtlggoiablbmmlaaDoor
