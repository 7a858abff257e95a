/-
  Chapter 6 in plain words: names, values, plain headers, lists that may be; no program.
  An end of a connection as plain data; who owns which block; how an end lies in memory. No program text is walked here.
  A map from numbers to pointers, as a list of its keys: how it lies; looked up, laid into, struck, counted, cleared. No program.
-/
import Derived.Lib.IndexMore
import Derived.Lib.IndexAny
import Derived.Test.YtkpppjhbmnfmkaaGreatDoorJa
set_option linter.unusedSimpArgs false
set_option linter.unusedVariables false
section
namespace Go.Own.Hd
open Go
/-- A header. -/
structure HdrV where
  name : ByteArray
  value : ByteArray
  never : Bool
def tx (s : ByteArray) : List UInt8 := s.data.toList
/-- The signs that a name may have besides letters and digits. -/
def signs : List UInt8 := [33, 35, 36, 37, 38, 39, 42, 43, 45, 46, 94, 95, 96, 124, 126]
def nameC (c : UInt8) : Bool := decide (97 ≤ c.toNat ∧ c.toNat ≤ 122) || decide (48 ≤ c.toNat ∧ c.toNat ≤ 57) || Lib.contains signs (Utf8.encode (c.toNat : Int)).data.toList
/-- head.Name -/
def nameB (l : List UInt8) : Bool := !l.isEmpty && l.all nameC
def blankB (c : UInt8) : Bool := c == 32 || c == 9
/-- head.Value -/
def valueB (l : List UInt8) : Bool := !Lib.containsAny l [0, 13, 10] && (l.isEmpty || (!blankB (l.getD 0 0) && !blankB (l.getD (l.length - 1) 0)))
def conn : List UInt8 := [99, 111, 110, 110, 101, 99, 116, 105, 111, 110]
def pconn : List UInt8 := [112, 114, 111, 120, 121, 45] ++ conn
def keepa : List UInt8 := [107, 101, 101, 112, 45, 97, 108, 105, 118, 101]
def trenc : List UInt8 := [116, 114, 97, 110, 115, 102, 101, 114, 45, 101, 110, 99, 111, 100, 105, 110, 103]
def upgr : List UInt8 := [117, 112, 103, 114, 97, 100, 101]
def te : List UInt8 := [116, 101]
def trails : List UInt8 := [116, 114, 97, 105, 108, 101, 114, 115]
/-- head.plain -/
def plainB (h : HdrV) : Bool :=
  if tx h.name = conn ∨ tx h.name = pconn ∨ tx h.name = keepa ∨ tx h.name = trenc ∨ tx h.name = upgr then false
  else if tx h.name = te then decide (tx h.value = trails) else nameB (tx h.name) && valueB (tx h.value)
def colonB (h : HdrV) : Bool := decide (tx h.name ≠ [] ∧ (tx h.name).getD 0 0 = 58)
theorem colon_not_name (l : List UInt8) (h : l.getD 0 0 = 58) (hn : l ≠ []) : nameB l = false := by
  rcases l with _ | ⟨c, l⟩
  · exact absurd rfl hn
  · have hc : c = 58 := h
    subst hc
    have : nameC 58 = false := by decide +kernel
    simp [nameB, this]
theorem plain_not_colon {h : HdrV} (hp : plainB h = true) : colonB h = false := by
  rw [Bool.eq_false_iff]
  intro hc
  unfold colonB at hc
  obtain ⟨h1, h2⟩ := of_decide_eq_true hc
  unfold plainB at hp
  split at hp
  · cases hp
  · split at hp
    · rename_i h3
      rw [h3] at h2
      exact absurd h2 (by decide)
    · rw [colon_not_name _ h2 h1] at hp
      cases hp
section
variable {σ : Type}
/-- What a header with a colon has to be, and where its value goes. -/
structure RuleF (σ : Type) where
  name : List UInt8
  must : Bool
  take : ByteArray → σ → Bool × σ
def musts (rs : List (RuleF σ)) (met : List (List UInt8)) : Bool := rs.all fun r => !r.must || met.contains r.name
/-- One header with a colon. -/
def step (rs : List (RuleF σ)) (h : HdrV) (met : List (List UInt8)) (s : σ) : Option σ :=
  match rs.find? (fun r => r.name == tx h.name) with
  | none => none
  | some r => if met.contains (tx h.name) then none else if valueB (tx h.value) then (if (r.take h.value s).1 then some (r.take h.value s).2 else none) else none
/-- The headers with colons. -/
def preP (rs : List (RuleF σ)) : List HdrV → List (List UInt8) → σ → Option σ
  | [], met, s => if musts rs met then some s else none
  | h :: t, met, s => match step rs h met s with
    | none => none
    | some s' => preP rs t (met ++ [tx h.name]) s'
/-- A list: its plain headers and what the others say. -/
def openS (rs : List (RuleF σ)) (l : List HdrV) (s : σ) : Option (List HdrV × σ) :=
  match preP rs (l.takeWhile colonB) [] s with
  | none => none
  | some s' => if (l.dropWhile colonB).all plainB then some (l.dropWhile colonB, s') else none
variable {rs : List (RuleF σ)} {s : σ}
theorem takeWhile_app {α : Type} (f : α → Bool) (p q : List α) (hp : p.all f = true) (hq : q.all (fun x => !f x) = true) : (p ++ q).takeWhile f = p ∧ (p ++ q).dropWhile f = q := by
  induction p with
  | nil =>
    rcases q with _ | ⟨x, q⟩
    · exact ⟨rfl, rfl⟩
    · simp at hq
      simp [hq.1]
  | cons x p ih =>
    simp at hp
    obtain ⟨h1, h2⟩ := ih (by simpa using hp.2)
    simp [hp.1, h1, h2]
theorem plains_not_colons {q : List HdrV} (hq : q.all plainB = true) : q.all (fun x => !colonB x) = true := by
  rw [List.all_eq_true] at hq ⊢
  intro x hx
  rw [plain_not_colon (hq x hx)]; rfl
theorem all_takeWhile {α : Type} (f : α → Bool) : ∀ l : List α, (l.takeWhile f).all f = true
  | [] => rfl
  | x :: l => by
    by_cases h : f x = true
    · simp [h]
    · simp [h]
/-- A list may be if it is headers with colons that may be, and plain headers. -/
theorem open_iff (l : List HdrV) : (openS rs l s).isSome = true ↔ ∃ p q, l = p ++ q ∧ p.all colonB = true ∧ q.all plainB = true ∧ (preP rs p [] s).isSome = true := by
  constructor
  · intro h
    refine ⟨l.takeWhile colonB, l.dropWhile colonB, (List.takeWhile_append_dropWhile).symm, all_takeWhile _ _, ?_⟩
    unfold openS at h
    rcases hp : preP rs (l.takeWhile colonB) [] s with _ | s'
    · rw [hp] at h; cases h
    · rw [hp] at h
      simp only at h
      split at h
      · rename_i hq; exact ⟨hq, rfl⟩
      · cases h
  · rintro ⟨p, q, rfl, hp, hq, hs⟩
    obtain ⟨e1, e2⟩ := takeWhile_app colonB p q hp (plains_not_colons hq)
    obtain ⟨s', hs'⟩ := Option.isSome_iff_exists.1 hs
    unfold openS
    rw [e1, e2, hs']
    simp only
    rw [if_pos hq]
    rfl
def okB (rs : List (RuleF σ)) (s : σ) (l : List HdrV) : Bool := (openS rs l s).isSome
theorem bool_iff {a b : Bool} (h : a = true ↔ b = true) : a = b := by cases a <;> cases b <;> simp_all
/-- The plain part may be changed for another plain part. -/
theorem ok_part {l m : List HdrV} (h : okB rs s l = true) (hm : ∀ p q, l = p ++ q → p.all colonB = true → q.all plainB = true → ∃ q', m = p ++ q' ∧ q'.all plainB = true) : okB rs s m = true := by
  obtain ⟨p, q, e, hp, hq, hs⟩ := (open_iff l).1 h
  obtain ⟨q', e', hq'⟩ := hm p q e hp hq
  exact (open_iff m).2 ⟨p, q', e', hp, hq', hs⟩
theorem beyond {p q : List HdrV} {i : Nat} (hi : i < (p ++ q).length) (hp : p.all colonB = true) (hc : colonB ((p ++ q)[i]) = false) : p.length ≤ i := by
  rcases Nat.lt_or_ge i p.length with h | h
  · rw [List.getElem_append_left h] at hc
    rw [List.all_eq_true.1 hp _ (List.getElem_mem h)] at hc
    cases hc
  · exact h
/-- Two plain headers change places. -/
def swapL (l : List HdrV) (i k : Nat) (hi : i < l.length) (hk : k < l.length) : List HdrV := (l.set i l[k]).set k l[i]
theorem swap_ok {l : List HdrV} {i k : Nat} (hi : i < l.length) (hk : k < l.length) (hci : colonB l[i] = false) (hck : colonB l[k] = false) (h : okB rs s l = true) : okB rs s (swapL l i k hi hk) = true := by
  refine ok_part h fun p q e hp hq => ?_
  subst e
  have h1 := beyond hi hp hci
  have h2 := beyond hk hp hck
  have li : i - p.length < q.length := by rw [List.length_append] at hi; omega
  have lk : k - p.length < q.length := by rw [List.length_append] at hk; omega
  have ei : (p ++ q)[i] = q[i - p.length] := List.getElem_append_right h1
  have ek : (p ++ q)[k] = q[k - p.length] := List.getElem_append_right h2
  refine ⟨(q.set (i - p.length) q[k - p.length]).set (k - p.length) q[i - p.length], ?_, ?_⟩
  · unfold swapL
    rw [ei, ek, List.set_append_right _ _ h1, List.set_append_right _ _ h2]
  · rw [List.all_eq_true] at hq ⊢
    intro x hx
    rcases List.mem_or_eq_of_mem_set hx with hx | rfl
    · rcases List.mem_or_eq_of_mem_set hx with hx | rfl
      · exact hq x hx
      · exact hq _ (List.getElem_mem lk)
    · exact hq _ (List.getElem_mem li)
theorem swap_swap {l : List HdrV} {i k : Nat} (hi : i < l.length) (hk : k < l.length) : swapL (swapL l i k hi hk) i k (by simpa [swapL] using hi) (by simpa [swapL] using hk) = l := by
  apply List.ext_getElem
  · simp [swapL]
  · intro j h1 h2
    simp only [swapL, List.getElem_set]
    by_cases e1 : k = j
    · subst e1
      by_cases e2 : i = k
      · subst e2; simp
      · simp [Ne.symm e2]
    · by_cases e2 : i = j
      · subst e2; simp [e1]
      · simp [e1, e2]
theorem swap_at {l : List HdrV} {i k : Nat} (hi : i < l.length) (hk : k < l.length) : (swapL l i k hi hk)[i]'(by simpa [swapL] using hi) = l[k] ∧ (swapL l i k hi hk)[k]'(by simpa [swapL] using hk) = l[i] := by
  constructor
  · simp only [swapL, List.getElem_set]
    by_cases e : k = i
    · subst e; simp
    · simp [e]
  · simp [swapL]
theorem swap_same {l : List HdrV} {i k : Nat} (hi : i < l.length) (hk : k < l.length) (hci : colonB l[i] = false) (hck : colonB l[k] = false) : okB rs s (swapL l i k hi hk) = okB rs s l := by
  refine bool_iff ⟨fun h => ?_, swap_ok hi hk hci hck⟩
  have h2 := swap_ok (rs := rs) (s := s) (l := swapL l i k hi hk) (i := i) (k := k) (by simpa [swapL] using hi) (by simpa [swapL] using hk) (by rw [(swap_at hi hk).1]; exact hck) (by rw [(swap_at hi hk).2]; exact hci) h
  rwa [swap_swap] at h2
theorem swap_plain {l : List HdrV} {i k : Nat} (hi : i < l.length) (hk : k < l.length) : (swapL l i k hi hk).all plainB = l.all plainB := by
  have one : ∀ (l : List HdrV) (hi : i < l.length) (hk : k < l.length), l.all plainB = true → (swapL l i k hi hk).all plainB = true := by
    intro l hi hk h
    rw [List.all_eq_true] at h ⊢
    intro x hx
    rcases List.mem_or_eq_of_mem_set hx with hx | rfl
    · rcases List.mem_or_eq_of_mem_set hx with hx | rfl
      · exact h x hx
      · exact h _ (List.getElem_mem hk)
    · exact h _ (List.getElem_mem hi)
  refine bool_iff ⟨fun h => ?_, one l hi hk⟩
  have h2 := one (swapL l i k hi hk) (by simpa [swapL] using hi) (by simpa [swapL] using hk) h
  rwa [swap_swap] at h2
/-- One is left out. -/
theorem less_ok {l : List HdrV} {i : Nat} (hi : i < l.length) (hci : colonB l[i] = false) (h : okB rs s l = true) : okB rs s (l.take i ++ l.drop (i + 1)) = true := by
  refine ok_part h fun p q e hp hq => ?_
  subst e
  have h1 := beyond hi hp hci
  refine ⟨q.take (i - p.length) ++ q.drop (i - p.length + 1), ?_, ?_⟩
  · rw [List.take_append, List.drop_append, List.take_of_length_le h1, List.drop_eq_nil_of_le (by omega), List.nil_append, List.append_assoc, show i + 1 - p.length = i - p.length + 1 by omega]
  · rw [List.all_eq_true] at hq ⊢
    intro x hx
    rcases List.mem_append.1 hx with hx | hx
    · exact hq x (List.mem_of_mem_take hx)
    · exact hq x (List.mem_of_mem_drop hx)
theorem less_plain {l : List HdrV} {i : Nat} (h : l.all plainB = true) : (l.take i ++ l.drop (i + 1)).all plainB = true := by
  rw [List.all_eq_true] at h ⊢
  intro x hx
  rcases List.mem_append.1 hx with hx | hx
  · exact h x (List.mem_of_mem_take hx)
  · exact h x (List.mem_of_mem_drop hx)
theorem nodup_length {α : Type} [DecidableEq α] : ∀ (a b : List α), a.Nodup → (∀ x ∈ a, x ∈ b) → a.length ≤ b.length
  | [], _, _, _ => Nat.zero_le _
  | x :: a, b, hn, hs => by
    obtain ⟨h1, h2⟩ := List.nodup_cons.1 hn
    have := nodup_length a (b.erase x) h2 fun y hy => (List.mem_erase_of_ne (fun e : y = x => h1 (e ▸ hy))).2 (hs y (List.mem_cons_of_mem _ hy))
    have hb := hs x List.mem_cons_self
    have := List.length_erase_of_mem hb
    have := List.length_pos_of_mem hb
    simp only [List.length_cons]
    omega
theorem step_some {h : HdrV} {met : List (List UInt8)} {s' : σ} (hs : step rs h met s = some s') : tx h.name ∈ rs.map (·.name) ∧ tx h.name ∉ met := by
  unfold step at hs
  split at hs
  · cases hs
  · rename_i r hf
    split at hs
    · cases hs
    · rename_i hm
      have h1 := List.find?_some hf
      have h2 := List.mem_of_find?_eq_some hf
      refine ⟨List.mem_map.2 ⟨r, h2, by simpa using h1⟩, by simpa using hm⟩
/-- There are no more headers with colons than rules. -/
theorem pre_count : ∀ (p : List HdrV) (met : List (List UInt8)) (s : σ), met.Nodup → (∀ x ∈ met, x ∈ rs.map (·.name)) → (preP rs p met s).isSome = true → met.length + p.length ≤ rs.length
  | [], met, s, hn, hm, _ => by
    have := nodup_length met _ hn hm
    simpa using this
  | h :: t, met, s, hn, hm, hs => by
    unfold preP at hs
    split at hs
    · cases hs
    · rename_i s' he
      obtain ⟨h1, h2⟩ := step_some he
      have := pre_count t (met ++ [tx h.name]) s' (by
        rw [List.nodup_append]
        refine ⟨hn, by simp, ?_⟩
        intro a ha b hb
        simp at hb
        subst hb
        exact fun e => h2 (e ▸ ha)) (by
        intro x hx
        rcases List.mem_append.1 hx with hx | hx
        · exact hm x hx
        · simp at hx; exact hx ▸ h1) hs
      simp at this ⊢
      omega
/-- One more. -/
theorem more_ok {l : List HdrV} {h : HdrV} (hl : okB rs s l = true) : okB rs s (l ++ [h]) = plainB h ∨ (colonB h = true ∧ l.length + 1 ≤ rs.length) := by
  by_cases hp : plainB h = true
  · refine .inl ?_
    rw [hp]
    refine ok_part hl fun p q e _ hq => ⟨q ++ [h], by rw [e, List.append_assoc], ?_⟩
    rw [List.all_append, hq]
    simp [hp]
  · by_cases ho : okB rs s (l ++ [h]) = true
    · refine .inr ?_
      obtain ⟨p, q, e, hp', hq, hs⟩ := (open_iff (l ++ [h])).1 ho
      have hq0 : q = [] := by
        rcases List.eq_nil_or_concat q with rfl | ⟨q', x, rfl⟩
        · rfl
        · exfalso
          rw [List.concat_eq_append, ← List.append_assoc] at e
          have e2 := (List.append_inj' e rfl).2
          simp at e2
          subst e2
          simp at hq
          exact hp hq.2
      subst hq0
      rw [List.append_nil] at e
      subst e
      refine ⟨by simp at hp'; exact hp'.2, ?_⟩
      have := pre_count (rs := rs) _ [] s List.nodup_nil (by simp) hs
      simpa using this
    · refine .inl ?_
      rw [Bool.eq_false_iff.2 hp, Bool.eq_false_iff.2 ho]
end
end Go.Own.Hd
end

section
namespace Go.Own.Cx
open Go Go.RowKit Go.Own
/-- Who owns a block. -/
inductive Tg where
  | no | cn | fed | out | ev | evd | inw | outw | map | lst | blk | enc | dec
  | st (id k : Nat)
  deriving DecidableEq
/-- What has happened: the cells, and what its list and its bytes read as. -/
structure EvV where
  kind : Nat := 0
  stream : Nat := 0
  code : Nat := 0
  last : Nat := 0
  fin : Bool := false
  la : Option Addr := none
  lc : Nat := 0
  ba : Option Addr := none
  bc : Nat := 0
  l : List Hd.HdrV := []
  by_ : List UInt8 := []
def evC (e : EvV) : Array Value := #[.int .i64 (e.kind : Nat), .int .i64 (e.stream : Nat), .int .i64 (e.code : Nat), .int .i64 (e.last : Nat), .bool e.fin, .slice e.la e.l.length e.lc, .slice e.ba e.by_.length e.bc]
/-- A stream. -/
structure Sv where
  id : Nat
  own : Nat := 0
  other : Nat := 0
  inw : Int
  outw : Int
  waits : List UInt8 := []
  trails : Bool := false
  held : Nat := 0
/-- An end. -/
structure Cv where
  side : Nat
  cw : Int
  cs : Int
  fed : List UInt8 := []
  greeted : Bool := false
  preface : Nat := 0
  out : List UInt8 := []
  evs : List EvV := []
  inw : Int := 65535
  outw : Int := 65535
  window : Int := 65535
  others : Int := 65535
  limit : Int := 2147483647
  acked : Bool := false
  last : Nat := 0
  strs : List Sv := []
  list : Option (Nat × Bool × List UInt8) := none
  bye : Bool := false
  gone : Bool := false
  dead : Bool := false
  code : Nat := 0
/-- Where a stream's parts lie. -/
structure SLay where
  sb : Nat := 0
  ib : Nat := 0
  ob : Nat := 0
  pb : Nat := 0
  rb : Nat := 0
  waits : Value := .slice none 0 0
  trl : Value := .slice none 0 0
/-- Where an end's parts lie. -/
structure Lay where
  fed : Value := .slice none 0 0
  out : Value := .slice none 0 0
  ev : Value := .slice none 0 0
  ib : Nat
  ob : Nat
  mb : Nat
  list : Value := .pointer none
  enc : Nat
  dec : Nat
  s : Nat → SLay := fun _ => {}
def ptr (b : Nat) : Value := .pointer (some ⟨b, 0, none⟩)
def cnC (M : Cv) (L : Lay) : Array Value :=
  #[.int .i64 (M.side : Nat), .int .i64 M.cw, .int .i64 M.cs, L.fed, .bool M.greeted, .int .i64 (M.preface : Nat), L.out, L.ev, .pointer (some ⟨L.ib, 0, none⟩), .pointer (some ⟨L.ob, 0, none⟩), .int .i64 M.window, .int .i64 M.others, .int .i64 M.limit, .bool M.acked, .int .i64 (M.last : Nat), .map (some L.mb), L.list, .bool M.bye, .bool M.gone, .bool M.dead, .int .i64 (M.code : Nat), .pointer (some ⟨L.enc, 0, none⟩), .pointer (some ⟨L.dec, 0, none⟩)]
def stC (s : Sv) (L : SLay) : Array Value :=
  #[.int .i64 (s.id : Nat), .int .i64 (s.own : Nat), .int .i64 (s.other : Nat), .pointer (some ⟨L.ib, 0, none⟩), .pointer (some ⟨L.ob, 0, none⟩), .pointer (some ⟨L.pb, 0, none⟩), L.waits, .bool s.trails, L.trl, .int .i64 (s.held : Nat)]
end Go.Own.Cx
end

section
namespace Go.Own.Im
open Go Go.RowKit Go.Own
/-- The block is a map with just these keys, each with its value. -/
def SM (P : Program) (kt : TypeId) (w : World) (b : Nat) (ks : List Nat) (f : Nat → Value) : Prop :=
  ∃ D, w.ownsMap P kt Rh b ks.length D ∧ Maps.Tidy D ∧ Maps.size D = ks.length ∧ (∀ k : Int, Maps.has D (il k) = ks.any fun i : Nat => decide ((i : Int) = k)) ∧ ∀ i ∈ ks, ∀ z, D.atKey (il (i : Int)) z = .held (f i)
section
variable {P : Program} {kt : TypeId} {w w' : World} {b : Nat} {ks : List Nat} {f : Nat → Value}
theorem own_tight {R : Value → Option (DataW Value × List MemPlace)} {n : Nat} {D : DataW Value} (h : w.ownsMap P kt R b n D) : w.ownsMap P kt R b (Maps.size D) D := by
  obtain ⟨es, clock, hb, F, hs, rfl⟩ := h
  exact ⟨es, clock, hb, F, by simp [Maps.size, length_sorted], rfl⟩
theorem SM.lt (h : SM P kt w b ks f) : b < w.heap.size := by
  obtain ⟨D, h1, _⟩ := h
  exact h1.lt
theorem SM.keep (h : SM P kt w b ks f) (hb : w'.heap[b]? = w.heap[b]?) : SM P kt w' b ks f := by
  obtain ⟨D, ⟨es, clock, he, h1⟩, h2⟩ := h
  exact ⟨D, ⟨es, clock, hb.trans he, h1⟩, h2⟩
theorem SM.same (h : SM P kt w b ks f) {g : Nat → Value} (hg : ∀ i ∈ ks, f i = g i) : SM P kt w b ks g := by
  obtain ⟨D, h1, h2, h3, h4, h5⟩ := h
  exact ⟨D, h1, h2, h3, h4, fun i hi z => by rw [h5 i hi z, hg i hi]⟩
theorem SM.made (P : Program) (kt : TypeId) (w : World) (f : Nat → Value) : SM P kt (w.alloc (.map #[] 0)) w.heap.size [] f :=
  ⟨.map [], World.ownsMap_made w P kt Rh, ⟨[], rfl, List.Pairwise.nil⟩, rfl, fun _ => rfl, fun _ h => by cases h⟩
/-- What stands at a key. -/
def atI (ks : List Nat) (f : Nat → Value) (z : Value) (k : Int) : Value := match ks.find? (fun i : Nat => decide ((i : Int) = k)) with | some i => f i | none => z
variable {t e : TypeId} (ht : P.underlying t = some (.map kt e)) (hk : P.underlying kt = some (.int .i64))
include ht hk
theorem SM.look (h : SM P kt w b ks f) {z : Value} (hz : (zeroValue e).run P w = .ok z w) {k : Int} (hw : (Lit.int .i64 k).wf = true) :
    (Instr.lookup t (.map (some b)) (.int .i64 k) false).run P w = .ok (atI ks f z k) w := by
  obtain ⟨D, h1, h2, h3, h4, h5⟩ := h
  obtain ⟨v, ps, hrun, hv⟩ := h1.lookup (Maps.int_keyed hk) ht hz (zd := .held z) (zp := []) rfl (Maps.keyOf_int_mk hk hw)
  rw [hrun]
  unfold atI
  change Rh v = some (D.atKey (il k) _, ps) at hv
  cases hf : ks.find? (fun i : Nat => decide ((i : Int) = k)) with
  | none =>
    have hn : Maps.has D (il k) = false := by
      rw [h4 k, List.any_eq_false]
      intro i hi
      have := List.find?_eq_none.1 hf i hi
      simpa using this
    rw [Maps.atKey_of_not_has hn] at hv
    simp only [Rh, Option.some.injEq, Prod.mk.injEq, DataW.held.injEq] at hv
    rw [hv.1]
  | some i =>
    have hi := List.mem_of_find?_eq_some hf
    have hik : (i : Int) = k := by simpa using List.find?_some hf
    subst hik
    rw [h5 i hi] at hv
    simp only [Rh, Option.some.injEq, Prod.mk.injEq, DataW.held.injEq] at hv
    rw [hv.1]
omit hk in
theorem SM.len (h : SM P kt w b ks f) (ty : TypeId) : (Builtin.len_ #[t] ty #[.map (some b)]).run P w = .ok (.int .i64 (ks.length : Nat)) w := by
  obtain ⟨D, h1, h2, h3, _⟩ := h
  rw [h1.len ht ty, h3]
theorem SM.put (h : SM P kt w b ks f) (hn : ks.length < maxLen) {k : Nat} (hw : (Lit.int .i64 (k : Int)).wf = true) (hnew : k ∉ ks) (v : Value) :
    ∃ w', (Instr.mapUpdate t (.map (some b)) (.int .i64 (k : Int)) v).run P w = .ok () w' ∧ SM P kt w' b (ks ++ [k]) (fun i => if i = k then v else f i) ∧ w.grownBy w' (some b) ∧ w'.heap.size = w.heap.size := by
  obtain ⟨D, h1, h2, h3, h4, h5⟩ := h
  have K := Maps.int_keyed hk
  obtain ⟨w', hrun, r1, r2⟩ := h1.store K ht hn (Maps.keyOf_int_mk hk hw) (val := v) (d := .held v) (ps := []) rfl
  have hhas : Maps.has D (il (k : Int)) = false := by
    rw [h4, List.any_eq_false]
    intro i hi
    have : i ≠ k := fun e => hnew (e ▸ hi)
    simp; omega
  have hsz : Maps.size (D.put (il (k : Int)) (.held v)) = ks.length + 1 := by
    rw [Maps.size_put h2, hhas]; simp [h3]
  refine ⟨w', hrun, ⟨D.put (il (k : Int)) (.held v), ?_, r1.tidy K, by rw [hsz]; simp, fun x => ?_, fun i hi z => ?_⟩, ?_, ?_⟩
  · have := own_tight r1
    rw [show (Maps.size (D.put (.int .i64 (k : Int)) (.held v))) = (ks ++ [k]).length by rw [show (Lit.int .i64 (k : Int)) = il k from rfl, hsz]; simp] at this
    exact this
  · by_cases e : x = (k : Int)
    · subst e
      rw [Maps.has_put_same h2.isMap (keyLit _)]
      simp
    · rw [Maps.has_put_other (il_ne e), h4 x, List.any_append]
      have : ¬ (k : Int) = x := fun h => e h.symm
      simp [this]
  · by_cases e : i = k
    · subst e
      rw [Maps.atKey_put_same h2.isMap (keyLit _)]
      simp
    · rw [Maps.atKey_put_other (il_ne (by omega))]
      show _ = DataW.held (if i = k then v else f i)
      rw [if_neg e]
      rcases List.mem_append.1 hi with hi | hi
      · exact h5 i hi z
      · exact absurd (by simpa using hi) e
  · obtain ⟨es, clock, es', clock', hb, rfl⟩ := r2
    exact ⟨rfl, rfl, rfl, by simp [ChangeMaps.setBlock], fun i hi hne => ChangeMaps.heap_setBlock_other hb _ (fun e => hne (by rw [e]))⟩
  · obtain ⟨es, clock, es', clock', hb, rfl⟩ := r2
    simp [ChangeMaps.setBlock]
theorem SM.drop (h : SM P kt w b ks f) {k : Nat} (hw : (Lit.int .i64 (k : Int)).wf = true) (hin : k ∈ ks) (hnd : ks.Nodup) (ty : TypeId) :
    ∃ w', (Builtin.delete_ #[t, kt] ty #[.map (some b), .int .i64 (k : Int)]).run P w = .ok (.tuple #[]) w' ∧ SM P kt w' b (ks.filter fun i => i != k) f ∧ w.grownBy w' (some b) ∧ w'.heap.size = w.heap.size := by
  obtain ⟨D, h1, h2, h3, h4, h5⟩ := h
  have K := Maps.int_keyed hk
  obtain ⟨w', hrun, r1, r2⟩ := h1.drop K ht (Maps.keyOf_int_mk hk hw) ty
  have hhas : Maps.has D (il (k : Int)) = true := by
    rw [h4, List.any_eq_true]
    exact ⟨k, hin, by simp⟩
  have hlen : ∀ l : List Nat, k ∈ l → l.Nodup → (l.filter fun i => i != k).length + 1 = l.length := by
    intro l
    induction l with
    | nil => intro h; cases h
    | cons x l ih =>
      intro hm hn
      rw [List.nodup_cons] at hn
      by_cases e : x = k
      · subst e
        have : l.filter (fun i => i != x) = l := List.filter_eq_self.2 fun a ha => by
          have : a ≠ x := fun e => hn.1 (e ▸ ha)
          simpa using this
        simp [this]
      · have hm' : k ∈ l := by
          rcases List.mem_cons.1 hm with h | h
          · exact absurd h.symm e
          · exact h
        have := ih hm' hn.2
        simp [e]
        omega
  have hsz : Maps.size (D.del (il (k : Int))) = (ks.filter fun i => i != k).length := by
    have := Maps.size_del (k := il (k : Int)) h2
    rw [hhas] at this
    have h6 := hlen ks hin hnd
    simp at this
    omega
  refine ⟨w', hrun, ⟨D.del (il (k : Int)), ?_, r1.tidy K, hsz, fun x => ?_, fun i hi z => ?_⟩, ?_, ?_⟩
  · have := own_tight r1
    rw [show Maps.size (D.del (.int .i64 (k : Int))) = (ks.filter fun i => i != k).length from hsz] at this
    exact this
  · by_cases e : x = (k : Int)
    · subst e
      rw [Maps.has_del_same]
      symm
      rw [List.any_eq_false]
      intro i hi
      have := (List.mem_filter.1 hi).2
      simp at this ⊢
      omega
    · rw [Maps.has_del_other (il_ne e), h4 x, List.any_filter]
      congr 1
      funext i
      by_cases e2 : i = k
      · have : ¬ (k : Int) = x := fun h => e h.symm
        subst e2
        simp [this]
      · simp [e2]
  · have hi' := List.mem_filter.1 hi
    have e : i ≠ k := by simpa using hi'.2
    rw [Maps.atKey_del_other (il_ne (by omega))]
    exact h5 i hi'.1 z
  · obtain ⟨es, clock, es', clock', hb, rfl⟩ := r2
    exact ⟨rfl, rfl, rfl, by simp [ChangeMaps.setBlock], fun i hi hne => ChangeMaps.heap_setBlock_other hb _ (fun e => hne (by rw [e]))⟩
  · obtain ⟨es, clock, es', clock', hb, rfl⟩ := r2
    simp [ChangeMaps.setBlock]
omit hk in
theorem SM.clear (h : SM P kt w b ks f) (ty : TypeId) :
    ∃ w', (Builtin.clear_ #[t] ty #[.map (some b)]).run P w = .ok (.tuple #[]) w' ∧ SM P kt w' b [] f ∧ w.grownBy w' (some b) ∧ w'.heap.size = w.heap.size := by
  obtain ⟨D, ⟨es, clock, hb, F, hs, hD⟩, h2, h3, h4, h5⟩ := h
  refine ⟨ChangeMaps.setBlock w b (.map #[] clock), ?_, ⟨.map [], ⟨#[], clock, ChangeMaps.heap_setBlock_same hb _, ⟨by simp, MapKept.stamped_empty clock, by simp⟩, Nat.le_refl _, rfl⟩, ⟨[], rfl, List.Pairwise.nil⟩, rfl, fun _ => rfl, fun _ h => by cases h⟩, ?_, by simp [ChangeMaps.setBlock]⟩
  · simp [Builtin.clear_, run_underlying ht, MapKept.run_getObj_map hb, MapKept.run_setObj_map _ hb, Result.andThen, ChangeMaps.setBlock]
  · exact ⟨rfl, rfl, rfl, by simp [ChangeMaps.setBlock], fun i hi hne => ChangeMaps.heap_setBlock_other hb _ (fun e => hne (by rw [e]))⟩
end
end Go.Own.Im
end
