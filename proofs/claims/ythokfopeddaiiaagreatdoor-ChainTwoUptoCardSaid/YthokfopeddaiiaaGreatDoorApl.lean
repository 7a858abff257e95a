/-
  Contracts: chain.Apply: rules that may be, whose pattern is empty.
-/
import Derived.Test.YthokfopeddaiiaaGreatDoorVal
import Derived.Test.YthokfopeddaiiaaGreatDoorMch
import Derived.Deep.DeepCutAuto
namespace Go.Proofs.YthokfopeddaiiaaGreatDoor
open Go.RowKit Go.Own Go.Own.Fn Go.Shelf
attribute [local go_sem] Oper.semAt_some
variable {σ : Type}
/-- The functions around functions that rules make, the first at place p. -/
def ruleAs (p : Nat) : List RuleV → List ((CallV → σ → AnsV × σ) → CallV → σ → AnsV × σ)
  | [] => []
  | r :: l => ruleA r p :: ruleAs (p + 1) l
theorem ruleAs_len (l : List RuleV) : ∀ p, (ruleAs (σ := σ) p l).length = l.length := by
  induction l with
  | nil => intro p; rfl
  | cons r l ih => intro p; simp [ruleAs, ih]
theorem ruleAs_at (l : List RuleV) : ∀ p j, (ruleAs (σ := σ) p l)[j]? = (l[j]?).map fun r => ruleA r (p + j) := by
  induction l with
  | nil => intro p j; simp [ruleAs]
  | cons r l ih =>
    intro p j
    cases j with
    | zero => simp [ruleAs]
    | succ j => simp [ruleAs, ih, Nat.add_assoc, Nat.add_comm 1 j]
/-- While the list is made. -/
structure ApJ (S : Stt σ) (k0 : Nat) (ex R : Nat → Prop) (w : World) (l : List RuleV) (k : Nat) (v : Value) (avs : List Value) (wr : World) : Prop where
  len : avs.length = k
  own : wr.ownsRow w.heap.size 79 1 v k avs
  bel : Below w.heap.size w wr
  lt : ∀ i, R i → i < wr.heap.size
  mine : ∀ g, v.ownBlock = some g → R g
  av : ∀ j r, j < k → l[j]? = some r → ∃ av, avs[j]? = some av ∧ Arnd Tryz.prog S (callL (k0 + j)) (callL (k0 + j + 1)) (fun i => ex i ∨ R i) av (ruleA r j) wr
theorem ApJ.move {S : Stt σ} {k0 k : Nat} {ex R : Nat → Prop} {w wr w1 : World} {l : List RuleV} {v : Value} {avs : List Value} (h : ApJ S k0 ex R w l k v avs wr) (hb : Below wr.heap.size wr w1) : ApJ S k0 ex R w l k v avs w1 :=
  ⟨h.len, h.own.kept (grown_of_below hb none) (own_or v), h.bel.trans (hb.mono h.bel.size), fun i hi => Nat.lt_of_lt_of_le (h.lt i hi) hb.size, h.mine, fun j r hj hr => by
    obtain ⟨av, h1, h2⟩ := h.av j r hj hr
    exact ⟨av, h1, h2.kx (Kx.below hb)⟩⟩
theorem ApJ.step {S : Stt σ} {k0 k : Nat} {ex R : Nat → Prop} {w w1 w3 : World} {l : List RuleV} {v v' rv : Value} {avs : List Value} {r : RuleV} (h : ApJ S k0 ex R w l k v avs w1) (hlr : l[k]? = some r)
    (hr : Arnd Tryz.prog S (callL (k0 + k)) (callL (k0 + k + 1)) (fun i => ex i ∨ R i) rv (ruleA r k) w1) (o : Obj)
    (hown : w3.ownsRow w.heap.size 79 1 v' (k + 1) (avs ++ [rv])) (hg : (w1.alloc o).grownBy w3 v.ownBlock) (hv : v'.ownBlock = v.ownBlock ∨ v'.ownBlock = some (w1.alloc o).heap.size) :
    ∃ R', ApJ S k0 ex R' w l (k + 1) v' (avs ++ [rv]) w3 := by
  have h2 := h.move (w1 := w1.alloc o) ((Below.refl _ _).alloc (Nat.le_refl _) _)
  have hsz := h2.bel.size
  have bel3 : Below w.heap.size w w3 := ⟨hg.os.trans h2.bel.os, hg.tape.trans h2.bel.tape, hg.output.trans h2.bel.output, Nat.le_trans hsz hg.size, fun i hi => by
    rw [hg.block i (by omega) (fun e => by have := (h2.own.lt i e.symm).1; omega)]
    exact h2.bel.block i hi⟩
  have kx2 : ∀ (av : Value) (L L' : Lvl CallV AnsV) (A : (CallV → σ → AnsV × σ) → CallV → σ → AnsV × σ), Arnd Tryz.prog S L L' (fun i => ex i ∨ R i) av A (w1.alloc o) → Arnd Tryz.prog S L L' (fun i => ex i ∨ R i ∨ v'.ownBlock = some i) av A w3 := by
    intro av L L' A hA
    refine (hA.letbe (ex' := fun i => ex i ∨ R i ∨ v'.ownBlock = some i) fun i hi he => ?_).kx (Kx.grown hg fun g e => .inr (.inl (h.mine g e)))
    rcases he with he | he | he
    · exact .inl he
    · exact .inr he
    · rcases hv with hv | hv
      · exact .inr (h.mine i (hv ▸ he))
      · rw [hv] at he
        injection he with he
        omega
  refine ⟨fun i => R i ∨ v'.ownBlock = some i, ?_, hown, bel3, ?_, fun g hg => .inr hg, ?_⟩
  · simp [h.len]
  · rintro i (hi | hi)
    · have := h2.lt i hi; have := hg.size; omega
    · exact (hown.lt i hi).2
  · intro j r' hj hr'
    rcases Nat.lt_or_ge j k with hlt | hge
    · obtain ⟨av, e1, e2⟩ := h2.av j r' hlt hr'
      refine ⟨av, ?_, kx2 _ _ _ _ e2⟩
      rw [List.getElem?_append_left (by rw [h.len]; exact hlt)]
      exact e1
    · obtain rfl : j = k := by omega
      obtain rfl : r' = r := Option.some.inj (hr'.symm.trans hlr)
      refine ⟨rv, ?_, kx2 _ _ _ _ (hr.kx (Kx.below ((Below.refl _ _).alloc (Nat.le_refl _) _)))⟩
      rw [List.getElem?_append_right (by rw [h.len]; exact Nat.le_refl _), h.len]
      simp
theorem ApJ.done {S : Stt σ} {k0 n : Nat} {ex R : Nat → Prop} {w wr : World} {l : List RuleV} {v : Value} {avs : List Value} (hl : l.length = n) (h : ApJ S k0 ex R w l n v avs wr) :
    ∃ A c, v = .slice A n c ∧ n ≤ c ∧ IsArs Tryz.prog S callL k0 ex wr A n (ruleAs 0 l) ∧ Below w.heap.size w wr ∧ ∀ ad, A = some ad → w.heap.size ≤ ad.block := by
  have each : ∀ A c, v = .slice A n c → (∀ (j : Nat) av, avs[j]? = some av → ∃ ad, A = some ad ∧ ad.block < wr.heap.size ∧ wr.cell? (ad.add j) = some av) → IsArs Tryz.prog S callL k0 ex wr A n (ruleAs 0 l) := by
    intro A c _ hc
    refine ⟨by rw [ruleAs_len, hl], fun j B hB => ?_⟩
    rw [ruleAs_at] at hB
    rcases hr : l[j]? with _ | r
    · rw [hr] at hB; cases hB
    · rw [hr] at hB
      have hj : j < n := by have := (List.getElem?_eq_some_iff.1 hr).1; omega
      obtain ⟨av, h1, h2⟩ := h.av j r hj hr
      obtain ⟨ad, e1, e2, e3⟩ := hc j av h1
      have : B = ruleA r (0 + j) := by simpa using hB.symm
      rw [this, Nat.zero_add]
      exact ⟨ad, av, e1, e2, e3, h2.letbe fun i _ hi => .inl hi⟩
  have hown := h.own
  rcases hown.2 with ⟨rfl, h0⟩ | ⟨g, cap, cur, rfl, hb, hg, hnc, _⟩
  · have hn0 : n = 0 := h0
    subst hn0
    exact ⟨none, 0, rfl, Nat.le_refl _, each none 0 rfl (fun j av hj => by
      have : avs = [] := List.eq_nil_of_length_eq_zero h.len
      rw [this] at hj; simp at hj), h.bel, fun ad e => by cases e⟩
  · exact ⟨_, cap, rfl, hnc, each _ _ rfl (fun j av hj => ⟨_, rfl, (hown.lt g rfl).2, hown.cells (g := g) rfl j av hj⟩), h.bel, fun ad e => by obtain rfl := Option.some.inj e; exact (hown.lt g rfl).1⟩
theorem IsArs.move {S : Stt σ} {k0 n : Nat} {ex ex2 : Nat → Prop} {wr W : World} {A : Option Addr} {As : List ((CallV → σ → AnsV × σ) → CallV → σ → AnsV × σ)} (h : IsArs Tryz.prog S callL k0 ex wr A n As) (hk : Kx ex wr W) (hA : ∀ ad, A = some ad → ¬ ex ad.block) (hx : ∀ i, ex2 i → ex i) : IsArs Tryz.prog S callL k0 ex2 W A n As := by
  refine ⟨h.1, fun j B hB => ?_⟩
  obtain ⟨ad, av, e1, e2, e3, e4⟩ := h.2 j B hB
  exact ⟨ad, av, e1, Nat.lt_of_lt_of_le e2 hk.size, (World.cell?_of_block (by rw [add_block]; exact hk.block _ e2 (hA ad e1))).trans e3, (e4.kx hk).letbe fun i _ hi => hx i hi⟩
/-- A slice of headers that came in. -/
def Hr (w : World) (A : Option Addr) (n : Nat) (l : List HdrV) : Prop :=
  l.length = n ∧ ∀ (j : Nat) u, (hcells l)[j]? = some u → ∃ ad, A = some ad ∧ ad.block < w.heap.size ∧ w.cell? (ad.add j) = some u
theorem Hr.below {w w' : World} {A : Option Addr} {n : Nat} {l : List HdrV} (h : Hr w A n l) (hb : Below w.heap.size w w') : Hr w' A n l :=
  ⟨h.1, fun j u hu => by
    obtain ⟨ad, e, h1, h2⟩ := h.2 j u hu
    exact ⟨ad, e, Nat.lt_of_lt_of_le h1 hb.size, (hb.cell (by rw [add_block]; exact h1)).trans h2⟩⟩
theorem Hw.hr {w : World} {base n c : Nat} {A : Option Addr} {l : List HdrV} (h : Hw w base (.slice A n c) l) : Hr w A n l := by
  have hn : l.length = n := by
    obtain ⟨A', c', e, _⟩ := h.form
    injection e with _ e _
    exact e.symm
  refine ⟨hn, fun j u hu => ?_⟩
  rcases h.2 with ⟨e, h0⟩ | ⟨g, cap, cur, e, _⟩
  · have : l = [] := List.eq_nil_of_length_eq_zero h0
    rw [this] at hu; simp [hcells] at hu
  · have e' := e
    injection e' with e1 _ _
    subst e1
    exact ⟨_, rfl, (World.ownsRow.lt h g rfl).2, World.ownsRow.cells h (g := g) rfl j u hu⟩
set_option maxRecDepth 100000 in
theorem run_app_h (w : World) (ty : TypeId) (A : Option Addr) (n c : Nat) (l : List HdrV) (hr : Hr w A n l) (hb : n ≤ 100000) :
    ∃ v' w', (Builtin.append_ #[23, 23] ty #[.slice none 0 0, .slice A n c]).run Tryz.prog w = .ok v' w' ∧ Hw w' w.heap.size v' l ∧ Below w.heap.size w w' := by
  obtain ⟨i, hi, hz, h1, h2⟩ := infoH
  rcases A with _ | ad
  · have hl : l = [] := by
      rcases l with _ | ⟨h, l⟩
      · rfl
      · obtain ⟨ad, e, _⟩ := hr.2 0 _ (show (hcells (h :: l))[0]? = some (.string h.name) from rfl)
        cases e
    subst hl
    obtain rfl : n = 0 := by have := hr.1; simpa using this.symm
    refine ⟨.slice none 0 0, w, ?_, Hw.nil _ _, Below.refl _ _⟩
    simp [Builtin.append_, run_underlying Tryz.underlying23, sizeOf, typeInfo, hi, Builtin.lenOf, Builtin.firstCells]
  · obtain ⟨v', w', hrun, r1, r2, _, r4⟩ := run_append_own_at (P := Tryz.prog) w w.heap.size 23 ty 34 i _ 3 40 Tryz.underlying23 hi hz h1 h2 rfl (by decide) (.slice none 0 0) 0 [] (World.ownsRow_nil _ _ _ _) ad n c (hcells l) (by rw [hcells_len, hr.1]) (fun j u hu => by
      obtain ⟨ad', e, _, h⟩ := hr.2 j u hu
      obtain rfl := Option.some.inj e
      exact h) (hcells_one l) (by simp only [maxLen]; omega) (by omega) (Nat.le_refl _)
    refine ⟨v', w', hrun, ?_, (Below.refl _ _).grown r2 (Nat.le_refl _) (fun k e => by simp [Value.ownBlock] at e)⟩
    unfold Hw
    rw [hr.1]
    rw [Nat.zero_add, List.nil_append] at r1
    exact r1
section
variable {ops : Array Oper} {rest : List Oper} {o : Oper} {a : Act} {Q : Exit → Act → World → Prop}
theorem wpList_app_h (w : World) (hgd : o.guard = none) (x : Operand) (ho : o.op = .call { callee := .builtin .append, args := #[.const (.slice none 0 0), x], argTypes := #[23, 23] })
    (A : Option Addr) (n c : Nat) (l : List HdrV) (hx : a.eval x = .slice A n c) (hr : Hr w A n l) (hb : n ≤ 100000)
    (h : ∀ A' c' w', Hw w' w.heap.size (.slice A' n c') l → Below w.heap.size w w' → wpList Tryz.prog ops Q rest (a.put o.dst (.slice A' n c')) w') : wpList Tryz.prog ops Q (o :: rest) a w := by
  refine wpList_plain hgd fun K hK => ?_
  obtain ⟨v', w', hrun, r1, r2⟩ := run_app_h w o.type A n c l hr hb
  obtain ⟨A', c', rfl, _⟩ := r1.form
  rw [hr.1] at hrun r1
  unfold Oper.wp execOp
  have e : a.eval (.const (.slice none 0 0)) = .slice none 0 0 := rfl
  simp only [ho, resolve, invoke, builtin, Sem.run_bind, Sem.run_pure, Result.andThen_ok, List.map_toArray, List.map_cons, List.map_nil, e, hx, hrun]
  exact hK _ _ (h A' c' w' r1 r2)
theorem wpList_app_b (w : World) (hgd : o.guard = none) (x : Operand) (ho : o.op = .call { callee := .builtin .append, args := #[.const (.slice none 0 0), x], argTypes := #[24, 24] })
    (B : Nat) (A : Option Addr) (n c : Nat) (l : List UInt8) (hx : a.eval x = .slice A n c) (hr : Rd w B A n l) (hb : n ≤ 1000000000)
    (h : ∀ A' c' w', Ow w' w.heap.size 5 (.slice A' n c') n l → Below w.heap.size w w' → wpList Tryz.prog ops Q rest (a.put o.dst (.slice A' n c')) w') : wpList Tryz.prog ops Q (o :: rest) a w := by
  refine wpList_app_any w byteP hgd (.const (.slice none 0 0)) x ho w.heap.size (.slice none 0 0) 0 [] rfl ⟨rfl, .inl ⟨rfl, rfl⟩⟩ B A n c l hx hr (by omega) (Nat.le_refl _) ?_
  intro A' c' w' h1 h2 _ _ _
  rw [Nat.zero_add, List.nil_append] at h1
  rw [Nat.zero_add]
  exact h A' c' w' h1 ((Below.refl _ _).grown h2 (Nat.le_refl _) (fun k e => by simp [Value.ownBlock] at e))
end
/-- Rules' functions are made one by one. -/
theorem arnd_for {S : Stt σ} {k0 k m mK aK : Nat} {ex R : Nat → Prop} {Wl wr W w2 : World} {l : List RuleV} {v : Value} {avs : List Value} {r : RuleV} {mC aC : Array Value} (hS : KeepsSt S) (hj : ApJ S k0 ex R Wl l k v avs wr) (hW : wr.heap.size ≤ W.heap.size) (hk : k < 100) (hk0 : k0 ≤ 600) (hex : ∀ g, ex g → g < Wl.heap.size) (hrow : ∀ g, S.row = some g → ex g)
    (h : KindFit σ m w2 W.heap.size r mK aK mC aC) (hb : W.heap.size ≤ w2.heap.size) (hi : ∀ i, aC = #[.pointer (some ⟨i, 0, none⟩)] → W.heap.size ≤ i) :
    Calls Tryz.prog aK (#[.agg r.cells, .int .i64 (k : Int)] ++ aC) w2 fun e w3 => ∃ K f cap, e = .returned (.func (.func K) f cap) ∧ Hid (Arnd Tryz.prog S (callL (k0 + k)) (callL (k0 + k + 1)) (fun i => ex i ∨ R i) (.func (.func K) f cap) (ruleA r k) w3 ∧ Below w2.heap.size w2 w3) := by
  have h1 := hj.bel.size
  refine (h.arnd S (k0 + k) (fun i => ex i ∨ R i) k w2 hS (by omega) hk ?_ (fun g hg => .inl (hrow g hg)) ?_ (Kx.refl _ _)).mono ?_
  · rintro g (hg | hg)
    · have := hex g hg; omega
    · have := hj.lt g hg; omega
  · intro i e
    have := hi i e
    rintro (hg | hg)
    · have := hex i hg; omega
    · have := hj.lt i hg; omega
  · rintro e w3 ⟨rv, rfl, g1, g2⟩
    obtain ⟨K, f, cap, rfl, hrest⟩ := g1
    exact ⟨K, f, cap, rfl, Lib.hid ⟨⟨K, f, cap, rfl, hrest⟩, g2⟩⟩
end Go.Proofs.YthokfopeddaiiaaGreatDoor
