/-
  Contract: head.split: lists are cut into headers with colons, by their rules, and plain ones.
  Contract: head.split: the walk.
-/
import Derived.Test.YtkpppjhbmnfmkaaGreatDoorJl
import Derived.Deep.RegionHeld3
import Derived.Deep.DrawnRows
import Derived.Deep.RegionLaw
import Derived.Deep.LoopGhost
import Derived.Deep.QuietTactic
import Derived.BigQuiet
set_option linter.unusedSimpArgs false
set_option linter.unusedVariables false
section
namespace Go.Own.Hd
variable {σ : Type}
def nmOf (h : HdrV) : List UInt8 := tx h.name
/-- The headers with colons, as far as they go. -/
def preN (rs : List (RuleF σ)) : List HdrV → List (List UInt8) → σ → Option σ
  | [], _, s => some s
  | h :: t, met, s => match step rs h met s with
    | none => none
    | some s' => preN rs t (met ++ [tx h.name]) s'
variable {rs : List (RuleF σ)}
theorem preP_eq : ∀ (p : List HdrV) (met : List (List UInt8)) (s : σ), preP rs p met s = match preN rs p met s with | none => none | some s' => if musts rs (met ++ p.map nmOf) then some s' else none
  | [], met, s => by simp [preP, preN]
  | h :: t, met, s => by
    simp only [preP, preN]
    cases step rs h met s with
    | none => rfl
    | some s' => simp only; rw [preP_eq t]; simp [nmOf]
theorem preN_snoc : ∀ (p : List HdrV) (h : HdrV) (met : List (List UInt8)) (s s' : σ), preN rs p met s = some s' → preN rs (p ++ [h]) met s = step rs h (met ++ p.map nmOf) s'
  | [], h, met, s, s', hp => by
    simp only [preN, Option.some.injEq] at hp
    subst hp
    simp only [List.nil_append, preN, List.map_nil, List.append_nil]
    cases step rs h met s <;> rfl
  | x :: t, h, met, s, s', hp => by
    simp only [preN] at hp
    simp only [List.cons_append, preN]
    cases hx : step rs x met s with
    | none => rw [hx] at hp; cases hp
    | some s1 =>
      rw [hx] at hp
      simp only at hp ⊢
      rw [preN_snoc t h _ s1 s' hp]
      simp [nmOf]
theorem preN_none : ∀ (p q : List HdrV) (met : List (List UInt8)) (s : σ), preN rs p met s = none → preN rs (p ++ q) met s = none
  | [], q, met, s, hp => by simp [preN] at hp
  | x :: t, q, met, s, hp => by
    simp only [preN] at hp
    simp only [List.cons_append, preN]
    cases hx : step rs x met s with
    | none => rfl
    | some s1 => rw [hx] at hp; exact preN_none t q _ s1 hp
theorem take_while_all {l : List HdrV} {k : Nat} (hk : k ≤ l.length) (h : (l.take k).all colonB = true) (hs : k = l.length ∨ colonB (l.getD k ⟨⟨#[]⟩, ⟨#[]⟩, false⟩) = false) : l.takeWhile colonB = l.take k ∧ l.dropWhile colonB = l.drop k := by
  have e : l = l.take k ++ l.drop k := (List.take_append_drop k l).symm
  have key : ∀ (p q : List HdrV), p.all colonB = true → (q = [] ∨ ∃ x t, q = x :: t ∧ colonB x = false) → (p ++ q).takeWhile colonB = p ∧ (p ++ q).dropWhile colonB = q := by
    intro p q hp hq
    induction p with
    | nil =>
      rcases hq with rfl | ⟨x, t, rfl, hx⟩
      · exact ⟨rfl, rfl⟩
      · simp [List.takeWhile_cons, List.dropWhile_cons, hx]
    | cons y p ih =>
      simp at hp
      obtain ⟨h1, h2⟩ := ih (by simpa using hp.2)
      simp [hp.1, h1, h2]
  have := key (l.take k) (l.drop k) h (by
    rcases hs with hs | hs
    · left; rw [hs]; exact List.drop_length
    · rcases Nat.lt_or_ge k l.length with hlt | hge
      · right
        refine ⟨l[k], l.drop (k + 1), List.drop_eq_getElem_cons hlt, ?_⟩
        simpa [List.getD, hlt] using hs
      · left; exact List.drop_eq_nil_of_le hge)
  rw [← e] at this
  exact this
/-- A header with a colon that may not be. -/
theorem open_bad {l : List HdrV} {s : σ} {k : Nat} (hk : k < l.length) (h : (l.take (k + 1)).all colonB = true) (hb : preN rs (l.take (k + 1)) [] s = none) : openS rs l s = none := by
  have e : l.takeWhile colonB = l.take (k + 1) ++ (l.takeWhile colonB).drop (k + 1) := by
    have h1 : l.takeWhile colonB = (l.take (k + 1) ++ l.drop (k + 1)).takeWhile colonB := by rw [List.take_append_drop]
    have h2 : ∀ (p q : List HdrV), p.all colonB = true → (p ++ q).takeWhile colonB = p ++ q.takeWhile colonB := by
      intro p q hp
      induction p with
      | nil => rfl
      | cons y p ih => simp at hp; simp [List.takeWhile_cons, hp.1, ih (by simpa using hp.2)]
    rw [h2 _ _ h] at h1
    rw [h1]
    rw [List.drop_left' (by rw [List.length_take]; omega)]
  unfold openS
  rw [preP_eq, e, preN_none _ _ _ _ hb]
/-- The headers with colons are through. -/
theorem open_through {l : List HdrV} {s s' : σ} {k : Nat} (hk : k ≤ l.length) (h : (l.take k).all colonB = true) (hs : k = l.length ∨ colonB (l.getD k ⟨⟨#[]⟩, ⟨#[]⟩, false⟩) = false) (hp : preN rs (l.take k) [] s = some s') :
    openS rs l s = if musts rs ((l.take k).map nmOf) then (if (l.drop k).all plainB then some (l.drop k, s') else none) else none := by
  obtain ⟨h1, h2⟩ := take_while_all hk h hs
  unfold openS
  rw [preP_eq, h1, h2, hp]
  simp only [List.nil_append]
  by_cases hm : musts rs ((l.take k).map nmOf) = true
  · rw [if_pos hm, if_pos hm]
  · rw [if_neg hm, if_neg hm]
end Go.Own.Hd
namespace Go.Proofs.YtkpppjhbmnfmkaaGreatDoor.H6
open Go.RowKit Go.Own Go.Own.Hd Go.Own.Fn Go.WideShapes
attribute [local go_sem ↓] Go.wp_at_zero Go.wp_at_succ
variable {σ : Type}
/-- A state that is one block. -/
def boxS (g : Nat) (T : TypeId) (cells : σ → Array Value) : Stt σ := ⟨some g, fun s w => Blk w g T (cells s)⟩
def txtL : Lvl ByteArray Bool := ⟨fun _ v x => v = .string x ∧ x.size ≤ 1000000000, fun _ v y => v = .bool y⟩
def isG (g i : Nat) : Prop := i = g
/-- The rules' functions. -/
def RF (g : Nat) (T : TypeId) (cells : σ → Array Value) (rs : List (RuleF σ × Value)) (w : World) : Prop := ∀ r ∈ rs, Fnc Tryz.prog (boxS g T cells) txtL (isG g) r.2 r.1.take w
theorem prefix_colon (x : HdrV) (w : World) : Calls Tryz.prog 92 #[.string x.name, .string ⟨#[58]⟩] w fun e w' => e = .returned (.bool (colonB x)) ∧ w = w' := by
  refine (Tryz.strings_HasPrefix x.name ⟨#[58]⟩ w).mono ?_
  rintro e w' ⟨h1, h2⟩
  refine ⟨?_, h2.symm⟩
  rw [h1]
  have : Lib.hasPrefix x.name.data.toList [58] = colonB x := by
    unfold colonB tx
    cases x.name.data.toList with
    | nil => rfl
    | cons c t =>
      have : [58].isPrefixOf (c :: t) = decide (c = 58) := by
        simp [List.isPrefixOf]
        rw [Bool.eq_iff_iff]; simp; exact eq_comm
      simp [Lib.hasPrefix, this]
  rw [show (⟨#[58]⟩ : ByteArray).data.toList = [58] from rfl, this]
set_option maxRecDepth 100000 in
/-- l[k:] -/
theorem cut_h {w : World} {A : Option Addr} {n c k : Nat} {l : List HdrV} (h : Hr w A n l) (hk : k ≤ n) (hc : n ≤ c) :
    ∃ A', Hr w A' (n - k) (l.drop k) ∧ (∀ ad', A' = some ad' → ∃ ad, A = some ad ∧ ad'.block = ad.block) ∧ ∀ W : World, (Instr.slice 41 (.slice A n c) (some (.int .i64 (k : Int))) none none).run Tryz.prog W = .ok (.slice A' (n - k) (c - k)) W := by
  obtain ⟨i, hi, hz, h1, h2⟩ := infoH
  refine ⟨if c = k then A else A.map fun x => x.add (k * 3), ?_, ?_, fun W => ?_⟩
  · refine ⟨by rw [List.length_drop, h.1], fun j u hu => ?_⟩
    have hd : hcells (l.drop k) = (hcells l).drop (k * 3) := by
      have e : hcells l = hcells (l.take k) ++ hcells (l.drop k) := by rw [← hcells_append, List.take_append_drop]
      rw [e, List.drop_left' (by rw [hcells_len, List.length_take, h.1]; congr 1; omega)]
    rw [hd, List.getElem?_drop] at hu
    obtain ⟨ad, e, hb, hcell⟩ := h.2 _ _ hu
    have hjl := (List.getElem?_eq_some_iff.1 hu).1
    rw [hcells_len, h.1] at hjl
    rw [if_neg (by omega), e]
    exact ⟨_, rfl, by rw [add_block]; exact hb, by rw [add_two]; exact hcell⟩
  · intro ad' e
    split at e
    · exact ⟨ad', e, rfl⟩
    · obtain ⟨ad, h1, rfl⟩ := Option.map_eq_some_iff.1 e
      exact ⟨ad, h1, add_block _ _⟩
  · simp [Instr.slice, run_underlying Tryz.underlying41, Instr.sliceBounds, run_sliceBound, sizeOf, typeInfo, hi, h1, Result.andThen, show (k : Int) ≤ n by omega]
theorem Hr.alt {w : World} {A : Option Addr} {n k : Nat} {l : List HdrV} (h : Hr w A n l) (hk : k < n) : ∀ ad, A = some ad → ad.block < w.heap.size := fun ad e => by
  have hl := h.1
  have hc := (hcells_at l k (by omega)).1
  obtain ⟨ad', e', hb, _⟩ := h.2 _ _ hc
  obtain rfl := Option.some.inj (e.symm.trans e')
  exact hb
theorem Hr.grown {w w' : World} {A : Option Addr} {n : Nat} {l : List HdrV} {row : Option Nat} (h : Hr w A n l) (hg : w.grownBy w' row) (hA : 0 < n → ∀ ad, A = some ad → some ad.block ≠ row) : Hr w' A n l :=
  ⟨h.1, fun j u hu => by
    have hpos : 0 < n := by have := (List.getElem?_eq_some_iff.1 hu).1; rw [hcells_len, h.1] at this; omega
    obtain ⟨ad, e, h1, h2⟩ := h.2 j u hu
    exact ⟨ad, e, Nat.lt_of_lt_of_le h1 hg.size, (World.cell?_of_block (hg.block _ (by rw [add_block]; exact h1) (by rw [add_block]; exact hA hpos ad e))).trans h2⟩⟩
end Go.Proofs.YtkpppjhbmnfmkaaGreatDoor.H6
end

section
namespace Go.Proofs.YtkpppjhbmnfmkaaGreatDoor.H6
open Go.RowKit Go.Own Go.Own.Hd Go.Own.Fn Go.WideShapes
attribute [local go_sem ↓] Go.wp_at_zero Go.wp_at_succ
variable {σ : Type}
/-- While headers with colons are met. -/
structure SpJ (w : World) (g : Nat) (T : TypeId) (cells : σ → Array Value) (rs : List (RuleF σ × Value)) (A : Option Addr) (n : Nat) (l : List HdrV) (mb nb : Nat) (s0 : σ) (k : Nat) (s : σ) (wr : World) : Prop where
  grown : w.grownBy wr (some g)
  st : Blk wr g T (cells s)
  rules : RM wr mb nb rs
  met : MM wr w.heap.size k ((l.take k).map nmOf)
  hr : Hr wr A n l
  col : (l.take k).all colonB = true
  pre : preN (rs.map (·.1)) (l.take k) [] s0 = some s
def SplitPost (g : Nat) (T : TypeId) (cells : σ → Array Value) (w : World) (r : Option (List HdrV × σ)) (e : Ending) (w' : World) : Prop :=
  w.grownBy w' (some g) ∧ ((r = none ∧ ∃ A n c, e = .returned (.tuple #[.slice A n c, .bool false])) ∨ ∃ rest s', r = some (rest, s') ∧ ∃ A c, e = .returned (.tuple #[.slice A rest.length c, .bool true]) ∧ Hw w' w.heap.size (.slice A rest.length c) rest ∧ Blk w' g T (cells s'))
theorem find_map (rs : List (RuleF σ × Value)) (nm : List UInt8) : (rs.map (·.1)).find? (fun r => r.name == nm) = (rs.find? (fun r => r.1.name == nm)).map (·.1) := by
  rw [List.find?_map]; rfl
/-- A block of cells keeps its cells where others are written. -/
theorem grown_put (w : World) (g : Nat) : w.grownBy w (some g) := World.grownBy.refl w _
structure SpC (w : World) (g : Nat) (mb : Nat) (A : Option Addr) (n : Nat) : Prop where
  lmb : mb < w.heap.size
  lg : g < w.heap.size
  ne : mb ≠ g
  g9 : 20 ≤ g
  a : 0 < n → ∀ ad, A = some ad → ad.block ≠ g
section
variable {w wr W : World} {g : Nat} {T : TypeId} {cells : σ → Array Value} {rs : List (RuleF σ × Value)} {A : Option Addr} {n : Nat} {l : List HdrV} {mb nb : Nat} {s0 s : σ} {k : Nat}
theorem SpJ.more (h : SpJ w g T cells rs A n l mb nb s0 k s wr) (hb : Below wr.heap.size wr W) : SpJ w g T cells rs A n l mb nb s0 k s W :=
  have hg := grown_of_below hb none
  ⟨h.grown.andThen hg (fun j e => by cases e), h.st.below hb h.st.lt, h.rules.kept hg (by simp), h.met.kept hg (by simp), h.hr.below hb, h.col, h.pre⟩
theorem SpJ.start (c : SpC w g mb A n) (hs : Blk w g T (cells s0)) (hm : RM w mb nb rs) (hr : Hr w A n l) : SpJ w g T cells rs A n l mb nb s0 0 s0 (w.alloc (.map #[] 0)) := by
  have hb : Below w.heap.size w (w.alloc (.map #[] 0)) := (Below.refl _ _).alloc (Nat.le_refl _) _
  exact ⟨grown_of_below hb _, hs.below hb c.lg, hm.kept (grown_of_below hb none) (by simp), ⟨.map [], World.ownsMap_made _ _ _ _, MD_nil⟩, hr.below hb, rfl, rfl⟩
theorem SpJ.env {e1 e2 e3 : Addr} (h : SpJ w g T cells rs A n l mb nb s0 k s wr) (c : SpC w g mb A n) (he : EnvH w e1 e2 e3) : EnvH wr e1 e2 e3 :=
  he.grown h.grown fun j e => by injection e with e; rw [← e]; exact c.g9
/-- The state has turned. -/
theorem SpJ.turned {s' : σ} (h : SpJ w g T cells rs A n l mb nb s0 k s wr) (c : SpC w g mb A n) (hg : wr.grownBy W (some g)) (hs : Blk W g T (cells s')) : w.grownBy W (some g) ∧ Blk W g T (cells s') ∧ RM W mb nb rs ∧ MM W w.heap.size k ((l.take k).map nmOf) ∧ Hr W A n l :=
  ⟨h.grown.andThen hg (fun j e => .inr e), hs, h.rules.kept hg (by simp [c.ne]), h.met.kept hg (fun e => by have := c.lg; injection e with e; omega), h.hr.grown hg (fun hp ad e => by simp [c.a hp ad e])⟩
/-- One more was met. -/
theorem SpJ.met1 {s' : σ} {W2 : World} (h : w.grownBy W (some g) ∧ Blk W g T (cells s') ∧ RM W mb nb rs ∧ MM W w.heap.size k ((l.take k).map nmOf) ∧ Hr W A n l) (c : SpC w g mb A n) (hk : k < l.length) (hg : W.grownBy W2 (some w.heap.size)) (hA : ∀ ad, A = some ad → ad.block < w.heap.size)
    (hm : MM W2 w.heap.size (k + 1) ((l.take k).map nmOf ++ [nmOf (l.getD k ⟨⟨#[]⟩, ⟨#[]⟩, false⟩)])) (hc : (l.take (k + 1)).all colonB = true) (hp : preN (rs.map (·.1)) (l.take (k + 1)) [] s0 = some s') : SpJ w g T cells rs A n l mb nb s0 (k + 1) s' W2 := by
  obtain ⟨h1, h2, h3, h4, h5⟩ := h
  have hlt := h4.lt
  refine ⟨h1.andThen hg (fun j e => .inl (by injection e with e; omega)), h2.grown hg (fun e => by have := c.lg; injection e with e; omega), h3.kept hg (fun e => by have := c.lmb; injection e with e; omega), ?_, h5.grown hg (fun _ ad e e2 => by have := hA ad e; injection e2 with e2; omega), hc, hp⟩
  rw [List.take_succ_eq_append_getElem hk, List.map_append]
  have : l.getD k ⟨⟨#[]⟩, ⟨#[]⟩, false⟩ = l[k] := by simp [List.getD, hk]
  rw [this] at hm
  exact hm
theorem sp_s {ad : Addr} {xn xv : ByteArray} {xb rm : Bool} {fv : Value} {B : Nat} (h : SpJ w g T cells rs (some ad) n l mb nb s0 k s W) (hx : l.getD k ⟨⟨#[]⟩, ⟨#[]⟩, false⟩ = ⟨xn, xv, xb⟩) (hk : k < n) (hs : xn.size ≤ 1000000000) (hB : Blk W B 170 #[.bool rm, fv]) :
    W.cell? (ad.add (k * 3)) = some (.string xn) ∧ W.cell? ⟨(ad.add (k * 3)).block, (ad.add (k * 3)).off + 1, none⟩ = some (.string xv) ∧ W.cell? ⟨B, 1, none⟩ = some fv ∧ (Instr.lookup 211 (.map (some w.heap.size)) (.string xn) false).run Tryz.prog W = .ok (.bool (((l.take k).map nmOf).contains xn.data.toList)) W := by
  obtain ⟨ad', e, h0, h1, _⟩ := h.hr.at_ hk
  obtain rfl := Option.some.inj e
  rw [hx] at h0 h1
  exact ⟨h0, h1, hB.cell 1, run_met h.met xn (by simp only [maxLen]; omega)⟩
theorem sp_t {ad : Addr} {xn xv : ByteArray} {xb rm : Bool} {fv : Value} {B : Nat} {s' : σ} (h : w.grownBy W (some g) ∧ Blk W g T (cells s') ∧ RM W mb nb rs ∧ MM W w.heap.size k ((l.take k).map nmOf) ∧ Hr W (some ad) n l) (_c : SpC w g mb (some ad) n) (hx : l.getD k ⟨⟨#[]⟩, ⟨#[]⟩, false⟩ = ⟨xn, xv, xb⟩) (hk : k < n) (hs : xn.size ≤ 1000000000) (hB : Blk W B 170 #[.bool rm, fv]) :
    W.cell? (ad.add (k * 3)) = some (.string xn) ∧ W.cell? ⟨(ad.add (k * 3)).block, (ad.add (k * 3)).off + 1, none⟩ = some (.string xv) ∧ W.cell? ⟨B, 1, none⟩ = some fv ∧ (Instr.lookup 211 (.map (some w.heap.size)) (.string xn) false).run Tryz.prog W = .ok (.bool (((l.take k).map nmOf).contains xn.data.toList)) W := by
  obtain ⟨_, _, _, hm, hr⟩ := h
  obtain ⟨ad', e, h0, h1, _⟩ := hr.at_ hk
  obtain rfl := Option.some.inj e
  rw [hx] at h0 h1
  exact ⟨h0, h1, hB.cell 1, run_met hm xn (by simp only [maxLen]; omega)⟩
end
theorem SpJ.other {w wr W : World} {g : Nat} {T : TypeId} {cells : σ → Array Value} {rs : List (RuleF σ × Value)} {A : Option Addr} {n : Nat} {l : List HdrV} {mb nb : Nat} {s0 s : σ} {k R : Nat} (h : SpJ w g T cells rs A n l mb nb s0 k s wr) (c : SpC w g mb A n) (hr : Hr w A n l) (hg : wr.grownBy W (some R)) (hR : w.heap.size < R) : SpJ w g T cells rs A n l mb nb s0 k s W := by
  have h1 := h.grown.andThen hg (fun j e => .inl (by injection e with e; omega))
  exact ⟨h1, h.st.grown hg (fun e => by have := c.lg; injection e with e; omega), h.rules.kept hg (fun e => by have := c.lmb; injection e with e; omega), h.met.kept hg (fun e => by injection e with e; omega), hr.grown h1 (fun hp ad e => by simp [c.a hp ad e]), h.col, h.pre⟩
/-- What has come is a rule. -/
theorem rd_entry {D : DataW Value} {rs : List (RuleF σ × Value)} (h : RD D rs) {nm : List UInt8} {m : Bool} {v : Value} (hat : ∀ z, D.atKey (lt nm) z = .held (.agg #[.bool m, v])) : ∃ r ∈ rs, rs.find? (fun r => r.1.name == nm) = some r ∧ m = r.1.must ∧ v = r.2 ∧ r.1.name = nm := by
  have hh := Maps.has_true_of_atKey hat
  cases hf : rs.find? (fun r => r.1.name == nm) with
  | none => rw [(h.2 nm).1 hf] at hh; cases hh
  | some r =>
    have h2 := ((h.2 nm).2 r hf).2 (.lit (.bool false))
    rw [hat] at h2
    simp at h2
    exact ⟨r, List.mem_of_find?_eq_some hf, rfl, h2.1, h2.2, by simpa using List.find?_some hf⟩
theorem find_self : ∀ {rs : List (RuleF σ × Value)}, (rs.map (·.1.name)).Nodup → ∀ r ∈ rs, rs.find? (fun q => q.1.name == r.1.name) = some r
  | [], _, r, hr => by cases hr
  | x :: rs, hn, r, hr => by
    simp only [List.map_cons, List.nodup_cons] at hn
    rcases List.mem_cons.1 hr with rfl | hr
    · simp
    · have hne : x.1.name ≠ r.1.name := fun e => hn.1 (List.mem_map.2 ⟨r, hr, e.symm⟩)
      rw [List.find?_cons_of_neg (by simpa using hne)]
      exact find_self hn.2 r hr
theorem musts_true {rs : List (RuleF σ × Value)} {met : List (List UInt8)} (hn : (rs.map (·.1.name)).Nodup) (hg : ∀ nm r, rs.find? (fun q => q.1.name == nm) = some r → (!r.1.must || met.contains nm) = true) : musts (rs.map (·.1)) met = true := by
  unfold musts
  rw [List.all_eq_true]
  intro r hr
  obtain ⟨q, hq, rfl⟩ := List.mem_map.1 hr
  exact hg _ _ (find_self hn q hq)
theorem musts_false {rs : List (RuleF σ × Value)} {met : List (List UInt8)} {r : RuleF σ × Value} (hr : r ∈ rs) (h : (!r.1.must || met.contains r.1.name) = false) : musts (rs.map (·.1)) met = false := by
  rw [Bool.eq_false_iff]
  intro hm
  have := List.all_eq_true.1 hm _ (List.mem_map.2 ⟨r, hr, rfl⟩)
  rw [h] at this
  cases this
theorem key_str_inv (key : Value) (kl : Lit) (h : keyOf Tryz.prog 9 key = some kl) : ∃ x : ByteArray, key = .string x := by
  cases key <;> simp [keyOf, Tryz.underlying9, mapKey] at h
  exact ⟨_, rfl⟩
theorem key_str_val (x : ByteArray) (kl : Lit) (h : keyOf Tryz.prog 9 (.string x) = some kl) : kl = lt x.data.toList ∧ x.size ≤ maxLen := by
  simp [keyOf, Tryz.underlying9, mapKey] at h
  exact ⟨h.2.symm, h.1⟩
structure RVal where
  m : Bool
  v : Value
def mkR (p : RVal) : Value := .agg #[.bool p.m, p.v]
theorem val_inv (v : Value) (y : DataW Value × List MemPlace) (h : R6 v = some y) : ∃ c, v = mkR c := by
  obtain ⟨b, f, rfl, _⟩ := R6_inv h
  exact ⟨⟨b, f⟩, rfl⟩
theorem step_app_h {ops : Array Oper} {o : Oper} {a : Act} {K : Act → World → Prop} {Q : Exit → Act → World → Prop} {E : Prop} (w : World) (hgd : o.guard = none) (x : Operand)
    (ho : o.op = .call { callee := .builtin .append, args := #[.const (.slice none 0 0), x], argTypes := #[41, 41] })
    (A : Option Addr) (n c : Nat) (l : List HdrV) (hx : a.eval x = .slice A n c) (hr : Hr w A n l) (hb : n ≤ 100000)
    (h : ∀ A' c' w', Hw w' w.heap.size (.slice A' n c') l → Below w.heap.size w w' → K (a.put o.dst (.slice A' n c')) w') :
    if Region.wanted o (yielded ops a.tmps) = true then Oper.wp Tryz.prog o a w K Q else E := by
  have hw : Region.wanted o (yielded ops a.tmps) = true := by simp [Region.wanted, hgd]
  rw [if_pos hw]
  obtain ⟨v', w', hrun, r1, r2⟩ := run_app_h w o.type A n c l hr hb
  obtain ⟨A', c', rfl, _⟩ := r1.form
  rw [hr.1] at hrun r1
  unfold Oper.wp execOp
  have e : a.eval (.const (.slice none 0 0)) = .slice none 0 0 := rfl
  simp only [ho, resolve, invoke, builtin, Sem.run_bind, Sem.run_pure, Result.andThen_ok, List.map_toArray, List.map_cons, List.map_nil, e, hx, hrun]
  exact h A' c' w' r1 r2
end Go.Proofs.YtkpppjhbmnfmkaaGreatDoor.H6
end
