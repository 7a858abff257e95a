/-
  Contract: head.split: lists are cut into headers with colons, by their rules, and plain ones.
-/
import Derived.Test.YtoafmhbgbofgoaaGreatDoorJa
import Derived.Deep.RegionHeld3
import Derived.Deep.DrawnRows
import Derived.Deep.RegionLaw
namespace Go.Own.Hd
variable {σ : Type}
def nmOf (h : HdrV) : List UInt8 := tx h.name
/-- The headers with colons, as far as they go. -/
def preN (rs : List (RuleF σ)) : List HdrV → List (List UInt8) → σ → Option σ
  | [], _, s => some s
  | h :: t, met, s => match step rs h met s with
    | none => none
    | some s' => preN rs t (met ++ [tx h.name]) s'
variable {rs : List (RuleF σ)}
theorem preP_eq : ∀ (p : List HdrV) (met : List (List UInt8)) (s : σ), preP rs p met s = match preN rs p met s with | none => none | some s' => if musts rs (met ++ p.map nmOf) then some s' else none
  | [], met, s => by simp [preP, preN]
  | h :: t, met, s => by
    simp only [preP, preN]
    cases step rs h met s with
    | none => rfl
    | some s' => simp only; rw [preP_eq t]; simp [nmOf]
theorem preN_snoc : ∀ (p : List HdrV) (h : HdrV) (met : List (List UInt8)) (s s' : σ), preN rs p met s = some s' → preN rs (p ++ [h]) met s = step rs h (met ++ p.map nmOf) s'
  | [], h, met, s, s', hp => by
    simp only [preN, Option.some.injEq] at hp
    subst hp
    simp only [List.nil_append, preN, List.map_nil, List.append_nil]
    cases step rs h met s <;> rfl
  | x :: t, h, met, s, s', hp => by
    simp only [preN] at hp
    simp only [List.cons_append, preN]
    cases hx : step rs x met s with
    | none => rw [hx] at hp; cases hp
    | some s1 =>
      rw [hx] at hp
      simp only at hp ⊢
      rw [preN_snoc t h _ s1 s' hp]
      simp [nmOf]
theorem preN_none : ∀ (p q : List HdrV) (met : List (List UInt8)) (s : σ), preN rs p met s = none → preN rs (p ++ q) met s = none
  | [], q, met, s, hp => by simp [preN] at hp
  | x :: t, q, met, s, hp => by
    simp only [preN] at hp
    simp only [List.cons_append, preN]
    cases hx : step rs x met s with
    | none => rfl
    | some s1 => rw [hx] at hp; exact preN_none t q _ s1 hp
theorem take_while_all {l : List HdrV} {k : Nat} (hk : k ≤ l.length) (h : (l.take k).all colonB = true) (hs : k = l.length ∨ colonB (l.getD k ⟨⟨#[]⟩, ⟨#[]⟩, false⟩) = false) : l.takeWhile colonB = l.take k ∧ l.dropWhile colonB = l.drop k := by
  have e : l = l.take k ++ l.drop k := (List.take_append_drop k l).symm
  have key : ∀ (p q : List HdrV), p.all colonB = true → (q = [] ∨ ∃ x t, q = x :: t ∧ colonB x = false) → (p ++ q).takeWhile colonB = p ∧ (p ++ q).dropWhile colonB = q := by
    intro p q hp hq
    induction p with
    | nil =>
      rcases hq with rfl | ⟨x, t, rfl, hx⟩
      · exact ⟨rfl, rfl⟩
      · simp [List.takeWhile_cons, List.dropWhile_cons, hx]
    | cons y p ih =>
      simp at hp
      obtain ⟨h1, h2⟩ := ih (by simpa using hp.2)
      simp [hp.1, h1, h2]
  have := key (l.take k) (l.drop k) h (by
    rcases hs with hs | hs
    · left; rw [hs]; exact List.drop_length
    · rcases Nat.lt_or_ge k l.length with hlt | hge
      · right
        refine ⟨l[k], l.drop (k + 1), List.drop_eq_getElem_cons hlt, ?_⟩
        simpa [List.getD, hlt] using hs
      · left; exact List.drop_eq_nil_of_le hge)
  rw [← e] at this
  exact this
/-- A header with a colon that may not be. -/
theorem open_bad {l : List HdrV} {s : σ} {k : Nat} (hk : k < l.length) (h : (l.take (k + 1)).all colonB = true) (hb : preN rs (l.take (k + 1)) [] s = none) : openS rs l s = none := by
  have e : l.takeWhile colonB = l.take (k + 1) ++ (l.takeWhile colonB).drop (k + 1) := by
    have h1 : l.takeWhile colonB = (l.take (k + 1) ++ l.drop (k + 1)).takeWhile colonB := by rw [List.take_append_drop]
    have h2 : ∀ (p q : List HdrV), p.all colonB = true → (p ++ q).takeWhile colonB = p ++ q.takeWhile colonB := by
      intro p q hp
      induction p with
      | nil => rfl
      | cons y p ih => simp at hp; simp [List.takeWhile_cons, hp.1, ih (by simpa using hp.2)]
    rw [h2 _ _ h] at h1
    rw [h1]
    rw [List.drop_left' (by rw [List.length_take]; omega)]
  unfold openS
  rw [preP_eq, e, preN_none _ _ _ _ hb]
/-- The headers with colons are through. -/
theorem open_through {l : List HdrV} {s s' : σ} {k : Nat} (hk : k ≤ l.length) (h : (l.take k).all colonB = true) (hs : k = l.length ∨ colonB (l.getD k ⟨⟨#[]⟩, ⟨#[]⟩, false⟩) = false) (hp : preN rs (l.take k) [] s = some s') :
    openS rs l s = if musts rs ((l.take k).map nmOf) then (if (l.drop k).all plainB then some (l.drop k, s') else none) else none := by
  obtain ⟨h1, h2⟩ := take_while_all hk h hs
  unfold openS
  rw [preP_eq, h1, h2, hp]
  simp only [List.nil_append]
  by_cases hm : musts rs ((l.take k).map nmOf) = true
  · rw [if_pos hm, if_pos hm]
  · rw [if_neg hm, if_neg hm]
end Go.Own.Hd
namespace Go.Proofs.YtoafmhbgbofgoaaGreatDoor
open Go.RowKit Go.Own Go.Own.Hd Go.Own.Fn Go.WideShapes
attribute [local go_sem ↓] Go.wp_at_zero Go.wp_at_succ
variable {σ : Type}
/-- A state that is one block. -/
def boxS (g : Nat) (T : TypeId) (cells : σ → Array Value) : Stt σ := ⟨some g, fun s w => Blk w g T (cells s)⟩
def txtL : Lvl ByteArray Bool := ⟨fun _ v x => v = .string x ∧ x.size ≤ 1000000000, fun _ v y => v = .bool y⟩
def isG (g i : Nat) : Prop := i = g
/-- The rules' functions. -/
def RF (g : Nat) (T : TypeId) (cells : σ → Array Value) (rs : List (RuleF σ × Value)) (w : World) : Prop := ∀ r ∈ rs, Fnc Tryz.prog (boxS g T cells) txtL (isG g) r.2 r.1.take w
theorem prefix_colon (x : HdrV) (w : World) : Calls Tryz.prog 36 #[.string x.name, .string ⟨#[58]⟩] w fun e w' => e = .returned (.bool (colonB x)) ∧ w = w' := by
  refine (Tryz.strings_HasPrefix x.name ⟨#[58]⟩ w).mono ?_
  rintro e w' ⟨h1, h2⟩
  refine ⟨?_, h2.symm⟩
  rw [h1]
  have : Lib.hasPrefix x.name.data.toList [58] = colonB x := by
    unfold colonB tx
    cases x.name.data.toList with
    | nil => rfl
    | cons c t =>
      have : [58].isPrefixOf (c :: t) = decide (c = 58) := by
        simp [List.isPrefixOf]
        rw [Bool.eq_iff_iff]; simp; exact eq_comm
      simp [Lib.hasPrefix, this]
  rw [show (⟨#[58]⟩ : ByteArray).data.toList = [58] from rfl, this]
set_option maxRecDepth 100000 in
/-- l[k:] -/
theorem cut_h {w : World} {A : Option Addr} {n c k : Nat} {l : List HdrV} (h : Hr w A n l) (hk : k ≤ n) (hc : n ≤ c) :
    ∃ A', Hr w A' (n - k) (l.drop k) ∧ (∀ ad', A' = some ad' → ∃ ad, A = some ad ∧ ad'.block = ad.block) ∧ ∀ W : World, (Instr.slice 22 (.slice A n c) (some (.int .i64 (k : Int))) none none).run Tryz.prog W = .ok (.slice A' (n - k) (c - k)) W := by
  obtain ⟨i, hi, hz, h1, h2⟩ := infoH
  refine ⟨if c = k then A else A.map fun x => x.add (k * 3), ?_, ?_, fun W => ?_⟩
  · refine ⟨by rw [List.length_drop, h.1], fun j u hu => ?_⟩
    have hd : hcells (l.drop k) = (hcells l).drop (k * 3) := by
      have e : hcells l = hcells (l.take k) ++ hcells (l.drop k) := by rw [← hcells_append, List.take_append_drop]
      rw [e, List.drop_left' (by rw [hcells_len, List.length_take, h.1]; congr 1; omega)]
    rw [hd, List.getElem?_drop] at hu
    obtain ⟨ad, e, hb, hcell⟩ := h.2 _ _ hu
    have hjl := (List.getElem?_eq_some_iff.1 hu).1
    rw [hcells_len, h.1] at hjl
    rw [if_neg (by omega), e]
    exact ⟨_, rfl, by rw [add_block]; exact hb, by rw [add_two]; exact hcell⟩
  · intro ad' e
    split at e
    · exact ⟨ad', e, rfl⟩
    · obtain ⟨ad, h1, rfl⟩ := Option.map_eq_some_iff.1 e
      exact ⟨ad, h1, add_block _ _⟩
  · simp [Instr.slice, run_underlying Tryz.underlying22, Instr.sliceBounds, run_sliceBound, sizeOf, typeInfo, hi, h1, Result.andThen, show (k : Int) ≤ n by omega]
theorem Hr.alt {w : World} {A : Option Addr} {n k : Nat} {l : List HdrV} (h : Hr w A n l) (hk : k < n) : ∀ ad, A = some ad → ad.block < w.heap.size := fun ad e => by
  have hl := h.1
  have hc := (hcells_at l k (by omega)).1
  obtain ⟨ad', e', hb, _⟩ := h.2 _ _ hc
  obtain rfl := Option.some.inj (e.symm.trans e')
  exact hb
theorem Hr.grown {w w' : World} {A : Option Addr} {n : Nat} {l : List HdrV} {row : Option Nat} (h : Hr w A n l) (hg : w.grownBy w' row) (hA : 0 < n → ∀ ad, A = some ad → some ad.block ≠ row) : Hr w' A n l :=
  ⟨h.1, fun j u hu => by
    have hpos : 0 < n := by have := (List.getElem?_eq_some_iff.1 hu).1; rw [hcells_len, h.1] at this; omega
    obtain ⟨ad, e, h1, h2⟩ := h.2 j u hu
    exact ⟨ad, e, Nat.lt_of_lt_of_le h1 hg.size, (World.cell?_of_block (hg.block _ (by rw [add_block]; exact h1) (by rw [add_block]; exact hA hpos ad e))).trans h2⟩⟩
end Go.Proofs.YtoafmhbgbofgoaaGreatDoor
