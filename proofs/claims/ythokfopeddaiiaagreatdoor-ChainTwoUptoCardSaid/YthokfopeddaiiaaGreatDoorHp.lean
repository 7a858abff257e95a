/-
  Chapter 6 in plain words: names, values, plain headers, lists that may be; no program.
-/
import Derived.Lib.IndexMore
import Derived.Lib.IndexAny
namespace Go.Own.Hd
open Go
/-- A header. -/
structure HdrV where
  name : ByteArray
  value : ByteArray
  never : Bool
def tx (s : ByteArray) : List UInt8 := s.data.toList
/-- The signs that a name may have besides letters and digits. -/
def signs : List UInt8 := [33, 35, 36, 37, 38, 39, 42, 43, 45, 46, 94, 95, 96, 124, 126]
def nameC (c : UInt8) : Bool := decide (97 ≤ c.toNat ∧ c.toNat ≤ 122) || decide (48 ≤ c.toNat ∧ c.toNat ≤ 57) || Lib.contains signs (Utf8.encode (c.toNat : Int)).data.toList
/-- head.Name -/
def nameB (l : List UInt8) : Bool := !l.isEmpty && l.all nameC
def blankB (c : UInt8) : Bool := c == 32 || c == 9
/-- head.Value -/
def valueB (l : List UInt8) : Bool := !Lib.containsAny l [0, 13, 10] && (l.isEmpty || (!blankB (l.getD 0 0) && !blankB (l.getD (l.length - 1) 0)))
def conn : List UInt8 := [99, 111, 110, 110, 101, 99, 116, 105, 111, 110]
def pconn : List UInt8 := [112, 114, 111, 120, 121, 45] ++ conn
def keepa : List UInt8 := [107, 101, 101, 112, 45, 97, 108, 105, 118, 101]
def trenc : List UInt8 := [116, 114, 97, 110, 115, 102, 101, 114, 45, 101, 110, 99, 111, 100, 105, 110, 103]
def upgr : List UInt8 := [117, 112, 103, 114, 97, 100, 101]
def te : List UInt8 := [116, 101]
def trails : List UInt8 := [116, 114, 97, 105, 108, 101, 114, 115]
/-- head.plain -/
def plainB (h : HdrV) : Bool :=
  if tx h.name = conn ∨ tx h.name = pconn ∨ tx h.name = keepa ∨ tx h.name = trenc ∨ tx h.name = upgr then false
  else if tx h.name = te then decide (tx h.value = trails) else nameB (tx h.name) && valueB (tx h.value)
def colonB (h : HdrV) : Bool := decide (tx h.name ≠ [] ∧ (tx h.name).getD 0 0 = 58)
theorem colon_not_name (l : List UInt8) (h : l.getD 0 0 = 58) (hn : l ≠ []) : nameB l = false := by
  rcases l with _ | ⟨c, l⟩
  · exact absurd rfl hn
  · have hc : c = 58 := h
    subst hc
    have : nameC 58 = false := by decide +kernel
    simp [nameB, this]
theorem plain_not_colon {h : HdrV} (hp : plainB h = true) : colonB h = false := by
  rw [Bool.eq_false_iff]
  intro hc
  unfold colonB at hc
  obtain ⟨h1, h2⟩ := of_decide_eq_true hc
  unfold plainB at hp
  split at hp
  · cases hp
  · split at hp
    · rename_i h3
      rw [h3] at h2
      exact absurd h2 (by decide)
    · rw [colon_not_name _ h2 h1] at hp
      cases hp
section
variable {σ : Type}
/-- What a header with a colon has to be, and where its value goes. -/
structure RuleF (σ : Type) where
  name : List UInt8
  must : Bool
  take : ByteArray → σ → Bool × σ
def musts (rs : List (RuleF σ)) (met : List (List UInt8)) : Bool := rs.all fun r => !r.must || met.contains r.name
/-- One header with a colon. -/
def step (rs : List (RuleF σ)) (h : HdrV) (met : List (List UInt8)) (s : σ) : Option σ :=
  match rs.find? (fun r => r.name == tx h.name) with
  | none => none
  | some r => if met.contains (tx h.name) then none else if valueB (tx h.value) then (if (r.take h.value s).1 then some (r.take h.value s).2 else none) else none
/-- The headers with colons. -/
def preP (rs : List (RuleF σ)) : List HdrV → List (List UInt8) → σ → Option σ
  | [], met, s => if musts rs met then some s else none
  | h :: t, met, s => match step rs h met s with
    | none => none
    | some s' => preP rs t (met ++ [tx h.name]) s'
/-- A list: its plain headers and what the others say. -/
def openS (rs : List (RuleF σ)) (l : List HdrV) (s : σ) : Option (List HdrV × σ) :=
  match preP rs (l.takeWhile colonB) [] s with
  | none => none
  | some s' => if (l.dropWhile colonB).all plainB then some (l.dropWhile colonB, s') else none
variable {rs : List (RuleF σ)} {s : σ}
theorem takeWhile_app {α : Type} (f : α → Bool) (p q : List α) (hp : p.all f = true) (hq : q.all (fun x => !f x) = true) : (p ++ q).takeWhile f = p ∧ (p ++ q).dropWhile f = q := by
  induction p with
  | nil =>
    rcases q with _ | ⟨x, q⟩
    · exact ⟨rfl, rfl⟩
    · simp at hq
      simp [hq.1]
  | cons x p ih =>
    simp at hp
    obtain ⟨h1, h2⟩ := ih (by simpa using hp.2)
    simp [hp.1, h1, h2]
theorem plains_not_colons {q : List HdrV} (hq : q.all plainB = true) : q.all (fun x => !colonB x) = true := by
  rw [List.all_eq_true] at hq ⊢
  intro x hx
  rw [plain_not_colon (hq x hx)]; rfl
theorem all_takeWhile {α : Type} (f : α → Bool) : ∀ l : List α, (l.takeWhile f).all f = true
  | [] => rfl
  | x :: l => by
    by_cases h : f x = true
    · simp [h]
    · simp [h]
/-- A list may be if it is headers with colons that may be, and plain headers. -/
theorem open_iff (l : List HdrV) : (openS rs l s).isSome = true ↔ ∃ p q, l = p ++ q ∧ p.all colonB = true ∧ q.all plainB = true ∧ (preP rs p [] s).isSome = true := by
  constructor
  · intro h
    refine ⟨l.takeWhile colonB, l.dropWhile colonB, (List.takeWhile_append_dropWhile).symm, all_takeWhile _ _, ?_⟩
    unfold openS at h
    rcases hp : preP rs (l.takeWhile colonB) [] s with _ | s'
    · rw [hp] at h; cases h
    · rw [hp] at h
      simp only at h
      split at h
      · rename_i hq; exact ⟨hq, rfl⟩
      · cases h
  · rintro ⟨p, q, rfl, hp, hq, hs⟩
    obtain ⟨e1, e2⟩ := takeWhile_app colonB p q hp (plains_not_colons hq)
    obtain ⟨s', hs'⟩ := Option.isSome_iff_exists.1 hs
    unfold openS
    rw [e1, e2, hs']
    simp only
    rw [if_pos hq]
    rfl
def okB (rs : List (RuleF σ)) (s : σ) (l : List HdrV) : Bool := (openS rs l s).isSome
theorem bool_iff {a b : Bool} (h : a = true ↔ b = true) : a = b := by cases a <;> cases b <;> simp_all
/-- The plain part may be changed for another plain part. -/
theorem ok_part {l m : List HdrV} (h : okB rs s l = true) (hm : ∀ p q, l = p ++ q → p.all colonB = true → q.all plainB = true → ∃ q', m = p ++ q' ∧ q'.all plainB = true) : okB rs s m = true := by
  obtain ⟨p, q, e, hp, hq, hs⟩ := (open_iff l).1 h
  obtain ⟨q', e', hq'⟩ := hm p q e hp hq
  exact (open_iff m).2 ⟨p, q', e', hp, hq', hs⟩
theorem beyond {p q : List HdrV} {i : Nat} (hi : i < (p ++ q).length) (hp : p.all colonB = true) (hc : colonB ((p ++ q)[i]) = false) : p.length ≤ i := by
  rcases Nat.lt_or_ge i p.length with h | h
  · rw [List.getElem_append_left h] at hc
    rw [List.all_eq_true.1 hp _ (List.getElem_mem h)] at hc
    cases hc
  · exact h
/-- Two plain headers change places. -/
def swapL (l : List HdrV) (i k : Nat) (hi : i < l.length) (hk : k < l.length) : List HdrV := (l.set i l[k]).set k l[i]
theorem swap_ok {l : List HdrV} {i k : Nat} (hi : i < l.length) (hk : k < l.length) (hci : colonB l[i] = false) (hck : colonB l[k] = false) (h : okB rs s l = true) : okB rs s (swapL l i k hi hk) = true := by
  refine ok_part h fun p q e hp hq => ?_
  subst e
  have h1 := beyond hi hp hci
  have h2 := beyond hk hp hck
  have li : i - p.length < q.length := by rw [List.length_append] at hi; omega
  have lk : k - p.length < q.length := by rw [List.length_append] at hk; omega
  have ei : (p ++ q)[i] = q[i - p.length] := List.getElem_append_right h1
  have ek : (p ++ q)[k] = q[k - p.length] := List.getElem_append_right h2
  refine ⟨(q.set (i - p.length) q[k - p.length]).set (k - p.length) q[i - p.length], ?_, ?_⟩
  · unfold swapL
    rw [ei, ek, List.set_append_right _ _ h1, List.set_append_right _ _ h2]
  · rw [List.all_eq_true] at hq ⊢
    intro x hx
    rcases List.mem_or_eq_of_mem_set hx with hx | rfl
    · rcases List.mem_or_eq_of_mem_set hx with hx | rfl
      · exact hq x hx
      · exact hq _ (List.getElem_mem lk)
    · exact hq _ (List.getElem_mem li)
theorem swap_swap {l : List HdrV} {i k : Nat} (hi : i < l.length) (hk : k < l.length) : swapL (swapL l i k hi hk) i k (by simpa [swapL] using hi) (by simpa [swapL] using hk) = l := by
  apply List.ext_getElem
  · simp [swapL]
  · intro j h1 h2
    simp only [swapL, List.getElem_set]
    by_cases e1 : k = j
    · subst e1
      by_cases e2 : i = k
      · subst e2; simp
      · simp [Ne.symm e2]
    · by_cases e2 : i = j
      · subst e2; simp [e1]
      · simp [e1, e2]
theorem swap_at {l : List HdrV} {i k : Nat} (hi : i < l.length) (hk : k < l.length) : (swapL l i k hi hk)[i]'(by simpa [swapL] using hi) = l[k] ∧ (swapL l i k hi hk)[k]'(by simpa [swapL] using hk) = l[i] := by
  constructor
  · simp only [swapL, List.getElem_set]
    by_cases e : k = i
    · subst e; simp
    · simp [e]
  · simp [swapL]
theorem swap_same {l : List HdrV} {i k : Nat} (hi : i < l.length) (hk : k < l.length) (hci : colonB l[i] = false) (hck : colonB l[k] = false) : okB rs s (swapL l i k hi hk) = okB rs s l := by
  refine bool_iff ⟨fun h => ?_, swap_ok hi hk hci hck⟩
  have h2 := swap_ok (rs := rs) (s := s) (l := swapL l i k hi hk) (i := i) (k := k) (by simpa [swapL] using hi) (by simpa [swapL] using hk) (by rw [(swap_at hi hk).1]; exact hck) (by rw [(swap_at hi hk).2]; exact hci) h
  rwa [swap_swap] at h2
theorem swap_plain {l : List HdrV} {i k : Nat} (hi : i < l.length) (hk : k < l.length) : (swapL l i k hi hk).all plainB = l.all plainB := by
  have one : ∀ (l : List HdrV) (hi : i < l.length) (hk : k < l.length), l.all plainB = true → (swapL l i k hi hk).all plainB = true := by
    intro l hi hk h
    rw [List.all_eq_true] at h ⊢
    intro x hx
    rcases List.mem_or_eq_of_mem_set hx with hx | rfl
    · rcases List.mem_or_eq_of_mem_set hx with hx | rfl
      · exact h x hx
      · exact h _ (List.getElem_mem hk)
    · exact h _ (List.getElem_mem hi)
  refine bool_iff ⟨fun h => ?_, one l hi hk⟩
  have h2 := one (swapL l i k hi hk) (by simpa [swapL] using hi) (by simpa [swapL] using hk) h
  rwa [swap_swap] at h2
/-- One is left out. -/
theorem less_ok {l : List HdrV} {i : Nat} (hi : i < l.length) (hci : colonB l[i] = false) (h : okB rs s l = true) : okB rs s (l.take i ++ l.drop (i + 1)) = true := by
  refine ok_part h fun p q e hp hq => ?_
  subst e
  have h1 := beyond hi hp hci
  refine ⟨q.take (i - p.length) ++ q.drop (i - p.length + 1), ?_, ?_⟩
  · rw [List.take_append, List.drop_append, List.take_of_length_le h1, List.drop_eq_nil_of_le (by omega), List.nil_append, List.append_assoc, show i + 1 - p.length = i - p.length + 1 by omega]
  · rw [List.all_eq_true] at hq ⊢
    intro x hx
    rcases List.mem_append.1 hx with hx | hx
    · exact hq x (List.mem_of_mem_take hx)
    · exact hq x (List.mem_of_mem_drop hx)
theorem less_plain {l : List HdrV} {i : Nat} (h : l.all plainB = true) : (l.take i ++ l.drop (i + 1)).all plainB = true := by
  rw [List.all_eq_true] at h ⊢
  intro x hx
  rcases List.mem_append.1 hx with hx | hx
  · exact h x (List.mem_of_mem_take hx)
  · exact h x (List.mem_of_mem_drop hx)
theorem nodup_length {α : Type} [DecidableEq α] : ∀ (a b : List α), a.Nodup → (∀ x ∈ a, x ∈ b) → a.length ≤ b.length
  | [], _, _, _ => Nat.zero_le _
  | x :: a, b, hn, hs => by
    obtain ⟨h1, h2⟩ := List.nodup_cons.1 hn
    have := nodup_length a (b.erase x) h2 fun y hy => (List.mem_erase_of_ne (fun e : y = x => h1 (e ▸ hy))).2 (hs y (List.mem_cons_of_mem _ hy))
    have hb := hs x List.mem_cons_self
    have := List.length_erase_of_mem hb
    have := List.length_pos_of_mem hb
    simp only [List.length_cons]
    omega
theorem step_some {h : HdrV} {met : List (List UInt8)} {s' : σ} (hs : step rs h met s = some s') : tx h.name ∈ rs.map (·.name) ∧ tx h.name ∉ met := by
  unfold step at hs
  split at hs
  · cases hs
  · rename_i r hf
    split at hs
    · cases hs
    · rename_i hm
      have h1 := List.find?_some hf
      have h2 := List.mem_of_find?_eq_some hf
      refine ⟨List.mem_map.2 ⟨r, h2, by simpa using h1⟩, by simpa using hm⟩
/-- There are no more headers with colons than rules. -/
theorem pre_count : ∀ (p : List HdrV) (met : List (List UInt8)) (s : σ), met.Nodup → (∀ x ∈ met, x ∈ rs.map (·.name)) → (preP rs p met s).isSome = true → met.length + p.length ≤ rs.length
  | [], met, s, hn, hm, _ => by
    have := nodup_length met _ hn hm
    simpa using this
  | h :: t, met, s, hn, hm, hs => by
    unfold preP at hs
    split at hs
    · cases hs
    · rename_i s' he
      obtain ⟨h1, h2⟩ := step_some he
      have := pre_count t (met ++ [tx h.name]) s' (by
        rw [List.nodup_append]
        refine ⟨hn, by simp, ?_⟩
        intro a ha b hb
        simp at hb
        subst hb
        exact fun e => h2 (e ▸ ha)) (by
        intro x hx
        rcases List.mem_append.1 hx with hx | hx
        · exact hm x hx
        · simp at hx; exact hx ▸ h1) hs
      simp at this ⊢
      omega
/-- One more. -/
theorem more_ok {l : List HdrV} {h : HdrV} (hl : okB rs s l = true) : okB rs s (l ++ [h]) = plainB h ∨ (colonB h = true ∧ l.length + 1 ≤ rs.length) := by
  by_cases hp : plainB h = true
  · refine .inl ?_
    rw [hp]
    refine ok_part hl fun p q e _ hq => ⟨q ++ [h], by rw [e, List.append_assoc], ?_⟩
    rw [List.all_append, hq]
    simp [hp]
  · by_cases ho : okB rs s (l ++ [h]) = true
    · refine .inr ?_
      obtain ⟨p, q, e, hp', hq, hs⟩ := (open_iff (l ++ [h])).1 ho
      have hq0 : q = [] := by
        rcases List.eq_nil_or_concat q with rfl | ⟨q', x, rfl⟩
        · rfl
        · exfalso
          rw [List.concat_eq_append, ← List.append_assoc] at e
          have e2 := (List.append_inj' e rfl).2
          simp at e2
          subst e2
          simp at hq
          exact hp hq.2
      subst hq0
      rw [List.append_nil] at e
      subst e
      refine ⟨by simp at hp'; exact hp'.2, ?_⟩
      have := pre_count (rs := rs) _ [] s List.nodup_nil (by simp) hs
      simpa using this
    · refine .inl ?_
      rw [Bool.eq_false_iff.2 hp, Bool.eq_false_iff.2 ho]
end
end Go.Own.Hd
