/-
  Rules of all kinds and patterns: the functions that they make, one by one; rules in two lists (plain); the arms of chain.Apply.
-/
import Derived.Test.YthokfopeddaiiaaGreatDoorVg
import Derived.Test.YthokfopeddaiiaaGreatDoorApl
namespace Go.Proofs.YthokfopeddaiiaaGreatDoor
open Go.RowKit Go.Own Go.Own.Fn Go.Shelf
attribute [local go_sem] Oper.semAt_some
variable {σ : Type}
/-- The functions around functions that rules make for a path, the first rule at place p. -/
def ruleGs (q : ByteArray) (p : Nat) : List RuleV → List ((CallV → σ → AnsV × σ) → CallV → σ → AnsV × σ)
  | [] => []
  | r :: l => if matB r.path q then ruleG r p :: ruleGs q (p + 1) l else ruleGs q (p + 1) l
theorem ruleGs_len (q : ByteArray) (l : List RuleV) : ∀ p, (ruleGs (σ := σ) q p l).length ≤ l.length := by
  induction l with
  | nil => intro p; exact Nat.le_refl _
  | cons r l ih =>
    intro p
    have := ih (p + 1)
    unfold ruleGs
    split
    · simp only [List.length_cons]; omega
    · simp only [List.length_cons]; omega
theorem ruleGs_app (q : ByteArray) (b : List RuleV) : ∀ (a : List RuleV) (p : Nat), ruleGs (σ := σ) q p (a ++ b) = ruleGs q p a ++ ruleGs q (p + a.length) b
  | [], p => rfl
  | r :: a, p => by
    have ih := ruleGs_app q b a (p + 1)
    show (if matB r.path q then ruleG r p :: ruleGs q (p + 1) (a ++ b) else ruleGs q (p + 1) (a ++ b)) = (if matB r.path q then ruleG r p :: ruleGs q (p + 1) a else ruleGs q (p + 1) a) ++ ruleGs q (p + (a.length + 1)) b
    rw [ih, show p + 1 + a.length = p + (a.length + 1) by omega]
    split <;> rfl
theorem ruleGs_succ (q : ByteArray) {l : List RuleV} {k : Nat} {r : RuleV} (hr : l[k]? = some r) : ruleGs (σ := σ) q 0 (l.take (k + 1)) = ruleGs q 0 (l.take k) ++ (if matB r.path q then [ruleG r k] else []) := by
  have hk := (List.getElem?_eq_some_iff.1 hr)
  obtain ⟨hkl, hke⟩ := hk
  rw [List.take_succ_eq_append_getElem hkl, ruleGs_app, hke, List.length_take, Nat.min_eq_left (Nat.le_of_lt hkl), Nat.zero_add]
  congr 1
/-! ### Two lists are one, but for the text -/
def SimA (a b : AnsV) : Prop := a.code = b.code ∧ a.hs = b.hs
def Sim (q : ByteArray) (F G : CallV → σ → AnsV × σ) : Prop := ∀ x s, x.path = q → SimA (F x s).1 (G x s).1 ∧ (F x s).2 = (G x s).2
theorem sim_ends {q : ByteArray} {r : RuleV} {p p' : Nat} {f : CallV → Bool} {F G : CallV → σ → AnsV × σ} (h : Sim q F G) : Sim q (endF r p f F) (endF r p' f G) := by
  intro x s hx
  unfold endF
  split
  · exact ⟨⟨rfl, rfl⟩, rfl⟩
  · exact h x s hx
theorem sim_rule {q : ByteArray} {r : RuleV} {p p' : Nat} {F G : CallV → σ → AnsV × σ} (h : Sim q F G) : Sim q (ruleG r p F) (ruleG r p' G) := by
  intro x s hx
  unfold ruleG
  split
  · exact h _ s hx
  · split
    · exact h _ s hx
    · split
      · exact sim_ends h x s hx
      · split
        · exact sim_ends h x s hx
        · split
          · exact sim_ends h x s hx
          · split
            · obtain ⟨⟨h1, h2⟩, h3⟩ := h x s hx
              exact ⟨⟨h1, congrArg (· ++ _) h2⟩, h3⟩
            · exact h x s hx
theorem sim_rules {q : ByteArray} : ∀ (l : List RuleV) (p p' : Nat) (F G : CallV → σ → AnsV × σ), Sim q F G → Sim q (wrapS (ruleGs q p l) F) (wrapS (ruleGs q p' l) G)
  | [], _, _, _, _, h => h
  | r :: l, p, p', F, G, h => by
    have ih := sim_rules l (p + 1) (p' + 1) F G h
    unfold ruleGs
    split
    · exact sim_rule ih
    · exact ih
/-- What the inner list does. -/
def innerF (b : List RuleV) (F : CallV → σ → AnsV × σ) (x : CallV) (s : σ) : AnsV × σ := wrapS (ruleGs x.path 0 b) F x s
theorem two_lists (a b : List RuleV) (F : CallV → σ → AnsV × σ) (x : CallV) (s : σ) :
    SimA (wrapS (ruleGs x.path 0 a) (innerF b F) x s).1 (wrapS (ruleGs x.path 0 (a ++ b)) F x s).1 ∧ (wrapS (ruleGs x.path 0 a) (innerF b F) x s).2 = (wrapS (ruleGs x.path 0 (a ++ b)) F x s).2 := by
  have h : Sim x.path (innerF b F) (wrapS (ruleGs x.path (0 + a.length) b) F) := by
    intro y t hy
    unfold innerF
    rw [hy]
    exact sim_rules b 0 (0 + a.length) F F (fun _ _ _ => ⟨⟨rfl, rfl⟩, rfl⟩) y t hy
  have := sim_rules a 0 0 _ _ h x s rfl
  rw [ruleGs_app]
  unfold wrapS at this ⊢
  rw [List.foldr_append]
  exact this
/-- While the list is made. -/
structure ApG (S : Stt σ) (k0 : Nat) (ex R : Nat → Prop) (w : World) (As : List ((CallV → σ → AnsV × σ) → CallV → σ → AnsV × σ)) (v : Value) (avs : List Value) (wr : World) : Prop where
  len : avs.length = As.length
  own : wr.ownsRow w.heap.size 79 1 v As.length avs
  bel : Below w.heap.size w wr
  lt : ∀ i, R i → i < wr.heap.size
  mine : ∀ g, v.ownBlock = some g → R g
  av : ∀ (j : Nat) B, As[j]? = some B → ∃ av, avs[j]? = some av ∧ Arnd Tryz.prog S (callL (k0 + j)) (callL (k0 + j + 1)) (fun i => ex i ∨ R i) av B wr
theorem ApG.move {S : Stt σ} {k0 : Nat} {ex R : Nat → Prop} {w wr w1 : World} {As : List ((CallV → σ → AnsV × σ) → CallV → σ → AnsV × σ)} {v : Value} {avs : List Value} (h : ApG S k0 ex R w As v avs wr) (hb : Below wr.heap.size wr w1) : ApG S k0 ex R w As v avs w1 :=
  ⟨h.len, h.own.kept (grown_of_below hb none) (own_or v), h.bel.trans (hb.mono h.bel.size), fun i hi => Nat.lt_of_lt_of_le (h.lt i hi) hb.size, h.mine, fun j B hB => by
    obtain ⟨av, h1, h2⟩ := h.av j B hB
    exact ⟨av, h1, h2.kx (Kx.below hb)⟩⟩
theorem ApG.step {S : Stt σ} {k0 m : Nat} {ex R : Nat → Prop} {w w1 w3 : World} {As : List ((CallV → σ → AnsV × σ) → CallV → σ → AnsV × σ)} {C : (CallV → σ → AnsV × σ) → CallV → σ → AnsV × σ} {v v' rv : Value} {avs : List Value} (hm : As.length = m) (h : ApG S k0 ex R w As v avs w1)
    (hr : Arnd Tryz.prog S (callL (k0 + m)) (callL (k0 + m + 1)) (fun i => ex i ∨ R i) rv C w1) (o : Obj)
    (hown : w3.ownsRow w.heap.size 79 1 v' (m + 1) (avs ++ [rv])) (hg : (w1.alloc o).grownBy w3 v.ownBlock) (hv : v'.ownBlock = v.ownBlock ∨ v'.ownBlock = some (w1.alloc o).heap.size) :
    ∃ R', ApG S k0 ex R' w (As ++ [C]) v' (avs ++ [rv]) w3 := by
  subst hm
  have h2 := h.move (w1 := w1.alloc o) ((Below.refl _ _).alloc (Nat.le_refl _) _)
  have hsz := h2.bel.size
  have bel3 : Below w.heap.size w w3 := ⟨hg.os.trans h2.bel.os, hg.tape.trans h2.bel.tape, hg.output.trans h2.bel.output, Nat.le_trans hsz hg.size, fun i hi => by
    rw [hg.block i (by omega) (fun e => by have := (h2.own.lt i e.symm).1; omega)]
    exact h2.bel.block i hi⟩
  have kx2 : ∀ (av : Value) (L L' : Lvl CallV AnsV) (A : (CallV → σ → AnsV × σ) → CallV → σ → AnsV × σ), Arnd Tryz.prog S L L' (fun i => ex i ∨ R i) av A (w1.alloc o) → Arnd Tryz.prog S L L' (fun i => ex i ∨ R i ∨ v'.ownBlock = some i) av A w3 := by
    intro av L L' A hA
    refine (hA.letbe (ex' := fun i => ex i ∨ R i ∨ v'.ownBlock = some i) fun i hi he => ?_).kx (Kx.grown hg fun g e => .inr (.inl (h.mine g e)))
    rcases he with he | he | he
    · exact .inl he
    · exact .inr he
    · rcases hv with hv | hv
      · exact .inr (h.mine i (hv ▸ he))
      · rw [hv] at he
        injection he with he
        omega
  refine ⟨fun i => R i ∨ v'.ownBlock = some i, by simp [h.len], by rw [List.length_append]; exact hown, bel3, ?_, fun g hg => .inr hg, ?_⟩
  · rintro i (hi | hi)
    · have := h2.lt i hi; have := hg.size; omega
    · exact (hown.lt i hi).2
  · intro j B hB
    rcases Nat.lt_or_ge j As.length with hlt | hge
    · rw [List.getElem?_append_left hlt] at hB
      obtain ⟨av, e1, e2⟩ := h2.av j B hB
      refine ⟨av, ?_, kx2 _ _ _ _ e2⟩
      rw [List.getElem?_append_left (by rw [h.len]; exact hlt)]
      exact e1
    · rw [List.getElem?_append_right hge] at hB
      have hj0 : j - As.length < 1 := by have := (List.getElem?_eq_some_iff.1 hB).1; simpa using this
      obtain rfl : j = As.length := by omega
      rw [Nat.sub_self] at hB
      obtain rfl : C = B := by simpa using hB
      refine ⟨rv, ?_, kx2 _ _ _ _ (hr.kx (Kx.below ((Below.refl _ _).alloc (Nat.le_refl _) _)))⟩
      rw [List.getElem?_append_right (by rw [h.len]; exact Nat.le_refl _), h.len]
      simp
theorem ApG.done {S : Stt σ} {k0 m : Nat} {ex R : Nat → Prop} {w wr : World} {As : List ((CallV → σ → AnsV × σ) → CallV → σ → AnsV × σ)} {v : Value} {avs : List Value} (hl : As.length = m) (h : ApG S k0 ex R w As v avs wr) :
    ∃ A c, v = .slice A m c ∧ m ≤ c ∧ IsArs Tryz.prog S callL k0 ex wr A m As ∧ Below w.heap.size w wr ∧ ∀ ad, A = some ad → w.heap.size ≤ ad.block := by
  subst hl
  have each : ∀ A c, v = .slice A As.length c → (∀ (j : Nat) av, avs[j]? = some av → ∃ ad, A = some ad ∧ ad.block < wr.heap.size ∧ wr.cell? (ad.add j) = some av) → IsArs Tryz.prog S callL k0 ex wr A As.length As := by
    intro A c _ hc
    refine ⟨rfl, fun j B hB => ?_⟩
    obtain ⟨av, h1, h2⟩ := h.av j B hB
    obtain ⟨ad, e1, e2, e3⟩ := hc j av h1
    exact ⟨ad, av, e1, e2, e3, h2.letbe fun i _ hi => .inl hi⟩
  have hown := h.own
  rcases hown.2 with ⟨rfl, h0⟩ | ⟨g, cap, cur, rfl, hb, hg, hnc, _⟩
  · have h0 : As.length = 0 := h0
    rw [h0] at each ⊢
    exact ⟨none, 0, rfl, Nat.le_refl _, each none 0 rfl (fun j av hj => by
      have : avs = [] := List.eq_nil_of_length_eq_zero (h.len.trans h0)
      rw [this] at hj; simp at hj), h.bel, fun ad e => by cases e⟩
  · exact ⟨_, cap, rfl, hnc, each _ _ rfl (fun j av hj => ⟨_, rfl, (hown.lt g rfl).2, hown.cells (g := g) rfl j av hj⟩), h.bel, fun ad e => by obtain rfl := Option.some.inj e; exact (hown.lt g rfl).1⟩
end Go.Proofs.YthokfopeddaiiaaGreatDoor
