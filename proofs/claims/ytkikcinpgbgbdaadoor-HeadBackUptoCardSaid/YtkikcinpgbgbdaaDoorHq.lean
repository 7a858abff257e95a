/-
  What is built is opened as it was: plain laws of lists that are built; no program.
-/
import Derived.Test.YtkikcinpgbgbdaaDoorOa
namespace Go.Own.Hd
open Go
section
variable {σ : Type} {rs : List (RuleF σ)} {s s' : σ}
theorem pre_cons {h : HdrV} {t : List HdrV} {met : List (List UInt8)} (e : preP rs (h :: t) met s = some s') : ∃ s1, step rs h met s = some s1 ∧ preP rs t (met ++ [tx h.name]) s1 = some s' := by
  unfold preP at e
  rcases hs : step rs h met s with _ | s1
  · rw [hs] at e; cases e
  · rw [hs] at e; exact ⟨s1, rfl, e⟩
theorem pre_nil {met : List (List UInt8)} (e : preP rs [] met s = some s') : s' = s := by
  unfold preP at e
  split at e
  · injection e with e; exact e.symm
  · cases e
theorem step_val {h : HdrV} {met : List (List UInt8)} {r : RuleF σ} (hf : rs.find? (fun r => r.name == tx h.name) = some r) (e : step rs h met s = some s') : s' = (r.take h.value s).2 ∧ (r.take h.value s).1 = true := by
  unfold step at e
  rw [hf] at e
  simp only at e
  split at e
  · cases e
  · split at e
    · split at e
      · rename_i h1
        injection e with e
        exact ⟨e.symm, h1⟩
      · cases e
    · cases e
theorem dropWhile_length_le {α : Type} (f : α → Bool) : ∀ l : List α, (l.dropWhile f).length ≤ l.length
  | [] => Nat.le_refl _
  | x :: l => by
    rw [List.dropWhile_cons]
    split
    · have := dropWhile_length_le f l
      rw [List.length_cons]; omega
    · exact Nat.le_refl _
theorem dropWhile_full {α : Type} (f : α → Bool) (l : List α) (h : (l.dropWhile f).length = l.length) : l.dropWhile f = l ∧ l.takeWhile f = [] := by
  rcases l with _ | ⟨x, l⟩
  · exact ⟨rfl, rfl⟩
  · rw [List.dropWhile_cons] at h ⊢
    rw [List.takeWhile_cons]
    by_cases hx : f x = true
    · rw [if_pos hx] at h
      have := dropWhile_length_le f l
      rw [List.length_cons] at h
      omega
    · rw [if_neg hx, if_neg hx]
      exact ⟨rfl, rfl⟩
theorem while_app {α : Type} (f : α → Bool) : ∀ (p q : List α), p.all f = true → (p ++ q).takeWhile f = p ++ q.takeWhile f ∧ (p ++ q).dropWhile f = q.dropWhile f
  | [], q, _ => ⟨rfl, rfl⟩
  | x :: p, q, h => by
    simp at h
    obtain ⟨h1, h2⟩ := while_app f p q (by simpa using h.2)
    simp [h.1, h1, h2]
/-- A list that is opened as long as it was built is what it was built of. -/
theorem open_built {p R rest : List HdrV} (hp : p.all colonB = true) (e : openS rs (p ++ R) s = some (rest, s')) (hl : rest.length = R.length) : rest = R ∧ preP rs p [] s = some s' := by
  obtain ⟨e1, e2⟩ := while_app colonB p R hp
  unfold openS at e
  rw [e1, e2] at e
  rcases hs : preP rs (p ++ R.takeWhile colonB) [] s with _ | s1
  · rw [hs] at e; cases e
  · rw [hs] at e
    simp only at e
    split at e
    · injection e with e
      injection e with e3 e4
      subst e3 e4
      obtain ⟨h1, h2⟩ := dropWhile_full colonB R hl
      rw [h2, List.append_nil] at hs
      exact ⟨h1, hs⟩
    · cases e
end
def colH (n : List UInt8) (v : ByteArray) : HdrV := ⟨⟨n.toArray⟩, v, false⟩
/-- The headers with colons of a request that is built. -/
def preL (M S A P : ByteArray) : List HdrV := [colH colM M, colH colS S] ++ (if A.toList.isEmpty then [] else [colH colA A]) ++ [colH colP P]
theorem colH_colon (n : List UInt8) (v : ByteArray) (h : n.getD 0 0 = 58) (h0 : n ≠ []) : colonB (colH n v) = true := by
  unfold colonB
  exact decide_eq_true ⟨h0, h⟩
theorem preL_colon (M S A P : ByteArray) : (preL M S A P).all colonB = true := by
  have h1 := colH_colon colM M rfl (by decide)
  have h2 := colH_colon colS S rfl (by decide)
  have h3 := colH_colon colA A rfl (by decide)
  have h4 := colH_colon colP P rfl (by decide)
  unfold preL
  cases A.toList.isEmpty <;> simp [h1, h2, h3, h4]
theorem empty_text (A : ByteArray) (h : A.toList.isEmpty = true) : A = ⟨#[]⟩ := by
  rw [Lib.toList_data] at h
  obtain ⟨⟨l⟩⟩ := A
  cases l with
  | nil => rfl
  | cons x l => cases h
theorem preL_req (M S A P : ByteArray) {s' : Req4} (e : preP rules4 (preL M S A P) [] req0 = some s') : s' = ⟨M, S, A, P⟩ := by
  have fM : ∀ v, rules4.find? (fun r => r.name == tx (colH colM v).name) = some takeM := fun v => rfl
  have fS : ∀ v, rules4.find? (fun r => r.name == tx (colH colS v).name) = some takeS := fun v => rfl
  have fP : ∀ v, rules4.find? (fun r => r.name == tx (colH colP v).name) = some takeP := fun v => rfl
  have fA : ∀ v, rules4.find? (fun r => r.name == tx (colH colA v).name) = some takeA := fun v => rfl
  unfold preL at e
  rcases hA : A.toList.isEmpty with _ | _
  · rw [hA] at e
    simp only [Bool.false_eq_true, if_false, List.cons_append, List.nil_append] at e
    obtain ⟨s1, h1, e⟩ := pre_cons e
    obtain ⟨s2, h2, e⟩ := pre_cons e
    obtain ⟨s3, h3, e⟩ := pre_cons e
    obtain ⟨s4, h4, e⟩ := pre_cons e
    have e := pre_nil e
    have h1 := (step_val (fM _) h1).1
    have h2 := (step_val (fS _) h2).1
    have h3 := (step_val (fA _) h3).1
    have h4 := (step_val (fP _) h4).1
    subst h1 h2 h3 h4 e
    rfl
  · rw [hA] at e
    obtain rfl := empty_text A hA
    simp only [if_true, List.cons_append, List.nil_append, List.append_nil] at e
    obtain ⟨s1, h1, e⟩ := pre_cons e
    obtain ⟨s2, h2, e⟩ := pre_cons e
    obtain ⟨s4, h4, e⟩ := pre_cons e
    have e := pre_nil e
    have h1 := (step_val (fM _) h1).1
    have h2 := (step_val (fS _) h2).1
    have h4 := (step_val (fP _) h4).1
    subst h1 h2 h4 e
    rfl
/-- What is opened of a request that is built. -/
theorem req_built {M S A P : ByteArray} {R rest : List HdrV} {s' : Req4} (e : openS rules4 (preL M S A P ++ R) req0 = some (rest, s')) (hl : rest.length = R.length) : rest = R ∧ s' = ⟨M, S, A, P⟩ := by
  obtain ⟨h1, h2⟩ := open_built (preL_colon M S A P) e hl
  exact ⟨h1, preL_req M S A P h2⟩
theorem dec_val (u : Nat) : (Lib.decDigits u).foldl (fun a c => a * 10 + (c.toNat - 48)) 0 = u := by
  induction u using Nat.strongRecOn with
  | _ u ih =>
    rw [Lib.decDigits]
    split
    · rename_i h
      have : (UInt8.ofNat (48 + u)).toNat = 48 + u := by
        rw [UInt8.toNat_ofNat']; omega
      rw [List.foldl_cons, List.foldl_nil, this]
      omega
    · rename_i h
      have : (UInt8.ofNat (48 + u % 10)).toNat = 48 + u % 10 := by
        rw [UInt8.toNat_ofNat']; omega
      rw [List.foldl_append, ih (u / 10) (by omega), List.foldl_cons, List.foldl_nil, this]
      omega
theorem dec_first (u : Nat) : (Lib.decDigits u).getD 0 0 ≠ 45 := by
  induction u using Nat.strongRecOn with
  | _ u ih =>
    rw [Lib.decDigits]
    split
    · rename_i h
      intro e
      have e : UInt8.ofNat (48 + u) = 45 := e
      have := congrArg UInt8.toNat e
      rw [UInt8.toNat_ofNat'] at this
      have h45 : (45 : UInt8).toNat = 45 := rfl
      omega
    · rename_i h
      have := ih (u / 10) (by omega)
      rcases hd : Lib.decDigits (u / 10) with _ | ⟨c, t⟩
      · have := Lib.decDigits_length (u / 10)
        rw [hd] at this
        have h2 := dec_val (u / 10)
        rw [hd] at h2
        have h2 : 0 = u / 10 := h2
        omega
      · rw [hd] at this
        exact this
theorem itoa_inj' {m n : Int} (hm : 0 ≤ m) (e : Lib.itoa m = Lib.itoa n) : m = n := by
  unfold Lib.itoa at e
  rw [if_neg (by omega)] at e
  split at e
  · exfalso
    have := dec_first m.toNat
    rw [e] at this
    exact this rfl
  · have h1 := dec_val m.toNat
    rw [e, dec_val] at h1
    omega
def staT (n : Int) : ByteArray := ⟨(Lib.itoa n).toArray⟩
theorem ans_built {n : Int} {R rest : List HdrV} {s' : Int} (e : openS rules1 ([colH colT (staT n)] ++ R) 0 = some (rest, s')) (hl : rest.length = R.length) : rest = R ∧ s' = n := by
  obtain ⟨h1, h2⟩ := open_built (by simp [colH_colon colT (staT n) rfl (by decide)]) e hl
  refine ⟨h1, ?_⟩
  obtain ⟨s1, h3, e⟩ := pre_cons h2
  have e := pre_nil e
  subst e
  obtain ⟨h4, h5⟩ := step_val (show rules1.find? (fun r => r.name == tx (colH colT (staT n)).name) = some takeT from rfl) h3
  subst h4
  have h5 : (statF (staT n) 0).1 = true := h5
  show (statF (staT n) 0).2 = n
  unfold statF at h5 ⊢
  split at h5
  · rename_i m hm
    simp only [Bool.and_eq_true, decide_eq_true_eq] at h5
    have e := h5.1.1.2
    have e : Lib.itoa m = Lib.itoa n := e
    exact itoa_inj' (by omega) e
  · cases h5
  · cases h5
end Go.Own.Hd
