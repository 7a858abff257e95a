/-
  Contract: head.split: the walk.
-/
import Derived.Test.YtoafmhbgbofgoaaGreatDoorSp
import Derived.Deep.LoopGhost
import Derived.Deep.QuietTactic
import Derived.BigQuiet
namespace Go.Proofs.YtoafmhbgbofgoaaGreatDoor
open Go.RowKit Go.Own Go.Own.Hd Go.Own.Fn Go.WideShapes
attribute [local go_sem ↓] Go.wp_at_zero Go.wp_at_succ
variable {σ : Type}
/-- While headers with colons are met. -/
structure SpJ (w : World) (g : Nat) (T : TypeId) (cells : σ → Array Value) (rs : List (RuleF σ × Value)) (A : Option Addr) (n : Nat) (l : List HdrV) (mb nb : Nat) (s0 : σ) (k : Nat) (s : σ) (wr : World) : Prop where
  grown : w.grownBy wr (some g)
  st : Blk wr g T (cells s)
  rules : RM wr mb nb rs
  met : MM wr w.heap.size k ((l.take k).map nmOf)
  hr : Hr wr A n l
  col : (l.take k).all colonB = true
  pre : preN (rs.map (·.1)) (l.take k) [] s0 = some s
def SplitPost (g : Nat) (T : TypeId) (cells : σ → Array Value) (w : World) (r : Option (List HdrV × σ)) (e : Ending) (w' : World) : Prop :=
  w.grownBy w' (some g) ∧ ((r = none ∧ ∃ A n c, e = .returned (.tuple #[.slice A n c, .bool false])) ∨ ∃ rest s', r = some (rest, s') ∧ ∃ A c, e = .returned (.tuple #[.slice A rest.length c, .bool true]) ∧ Hw w' w.heap.size (.slice A rest.length c) rest ∧ Blk w' g T (cells s'))
theorem find_map (rs : List (RuleF σ × Value)) (nm : List UInt8) : (rs.map (·.1)).find? (fun r => r.name == nm) = (rs.find? (fun r => r.1.name == nm)).map (·.1) := by
  rw [List.find?_map]; rfl
/-- A block of cells keeps its cells where others are written. -/
theorem grown_put (w : World) (g : Nat) : w.grownBy w (some g) := World.grownBy.refl w _
structure SpC (w : World) (g : Nat) (mb : Nat) (A : Option Addr) (n : Nat) : Prop where
  lmb : mb < w.heap.size
  lg : g < w.heap.size
  ne : mb ≠ g
  g9 : 14 ≤ g
  a : 0 < n → ∀ ad, A = some ad → ad.block ≠ g
section
variable {w wr W : World} {g : Nat} {T : TypeId} {cells : σ → Array Value} {rs : List (RuleF σ × Value)} {A : Option Addr} {n : Nat} {l : List HdrV} {mb nb : Nat} {s0 s : σ} {k : Nat}
theorem SpJ.more (h : SpJ w g T cells rs A n l mb nb s0 k s wr) (hb : Below wr.heap.size wr W) : SpJ w g T cells rs A n l mb nb s0 k s W :=
  have hg := grown_of_below hb none
  ⟨h.grown.andThen hg (fun j e => by cases e), h.st.below hb h.st.lt, h.rules.kept hg (by simp), h.met.kept hg (by simp), h.hr.below hb, h.col, h.pre⟩
theorem SpJ.start (c : SpC w g mb A n) (hs : Blk w g T (cells s0)) (hm : RM w mb nb rs) (hr : Hr w A n l) : SpJ w g T cells rs A n l mb nb s0 0 s0 (w.alloc (.map #[] 0)) := by
  have hb : Below w.heap.size w (w.alloc (.map #[] 0)) := (Below.refl _ _).alloc (Nat.le_refl _) _
  exact ⟨grown_of_below hb _, hs.below hb c.lg, hm.kept (grown_of_below hb none) (by simp), ⟨.map [], World.ownsMap_made _ _ _ _, MD_nil⟩, hr.below hb, rfl, rfl⟩
theorem SpJ.env {e1 e2 e3 : Addr} (h : SpJ w g T cells rs A n l mb nb s0 k s wr) (c : SpC w g mb A n) (he : EnvH w e1 e2 e3) : EnvH wr e1 e2 e3 :=
  he.grown h.grown fun j e => by injection e with e; rw [← e]; exact c.g9
/-- The state has turned. -/
theorem SpJ.turned {s' : σ} (h : SpJ w g T cells rs A n l mb nb s0 k s wr) (c : SpC w g mb A n) (hg : wr.grownBy W (some g)) (hs : Blk W g T (cells s')) : w.grownBy W (some g) ∧ Blk W g T (cells s') ∧ RM W mb nb rs ∧ MM W w.heap.size k ((l.take k).map nmOf) ∧ Hr W A n l :=
  ⟨h.grown.andThen hg (fun j e => .inr e), hs, h.rules.kept hg (by simp [c.ne]), h.met.kept hg (fun e => by have := c.lg; injection e with e; omega), h.hr.grown hg (fun hp ad e => by simp [c.a hp ad e])⟩
/-- One more was met. -/
theorem SpJ.met1 {s' : σ} {W2 : World} (h : w.grownBy W (some g) ∧ Blk W g T (cells s') ∧ RM W mb nb rs ∧ MM W w.heap.size k ((l.take k).map nmOf) ∧ Hr W A n l) (c : SpC w g mb A n) (hk : k < l.length) (hg : W.grownBy W2 (some w.heap.size)) (hA : ∀ ad, A = some ad → ad.block < w.heap.size)
    (hm : MM W2 w.heap.size (k + 1) ((l.take k).map nmOf ++ [nmOf (l.getD k ⟨⟨#[]⟩, ⟨#[]⟩, false⟩)])) (hc : (l.take (k + 1)).all colonB = true) (hp : preN (rs.map (·.1)) (l.take (k + 1)) [] s0 = some s') : SpJ w g T cells rs A n l mb nb s0 (k + 1) s' W2 := by
  obtain ⟨h1, h2, h3, h4, h5⟩ := h
  have hlt := h4.lt
  refine ⟨h1.andThen hg (fun j e => .inl (by injection e with e; omega)), h2.grown hg (fun e => by have := c.lg; injection e with e; omega), h3.kept hg (fun e => by have := c.lmb; injection e with e; omega), ?_, h5.grown hg (fun _ ad e e2 => by have := hA ad e; injection e2 with e2; omega), hc, hp⟩
  rw [List.take_succ_eq_append_getElem hk, List.map_append]
  have : l.getD k ⟨⟨#[]⟩, ⟨#[]⟩, false⟩ = l[k] := by simp [List.getD, hk]
  rw [this] at hm
  exact hm
theorem sp_s {ad : Addr} {xn xv : ByteArray} {xb rm : Bool} {fv : Value} {B : Nat} (h : SpJ w g T cells rs (some ad) n l mb nb s0 k s W) (hx : l.getD k ⟨⟨#[]⟩, ⟨#[]⟩, false⟩ = ⟨xn, xv, xb⟩) (hk : k < n) (hs : xn.size ≤ 1000000000) (hB : Blk W B 80 #[.bool rm, fv]) :
    W.cell? (ad.add (k * 3)) = some (.string xn) ∧ W.cell? ⟨(ad.add (k * 3)).block, (ad.add (k * 3)).off + 1, none⟩ = some (.string xv) ∧ W.cell? ⟨B, 1, none⟩ = some fv ∧ (Instr.lookup 105 (.map (some w.heap.size)) (.string xn) false).run Tryz.prog W = .ok (.bool (((l.take k).map nmOf).contains xn.data.toList)) W := by
  obtain ⟨ad', e, h0, h1, _⟩ := h.hr.at_ hk
  obtain rfl := Option.some.inj e
  rw [hx] at h0 h1
  exact ⟨h0, h1, hB.cell 1, run_met h.met xn (by simp only [maxLen]; omega)⟩
theorem sp_t {ad : Addr} {xn xv : ByteArray} {xb rm : Bool} {fv : Value} {B : Nat} {s' : σ} (h : w.grownBy W (some g) ∧ Blk W g T (cells s') ∧ RM W mb nb rs ∧ MM W w.heap.size k ((l.take k).map nmOf) ∧ Hr W (some ad) n l) (_c : SpC w g mb (some ad) n) (hx : l.getD k ⟨⟨#[]⟩, ⟨#[]⟩, false⟩ = ⟨xn, xv, xb⟩) (hk : k < n) (hs : xn.size ≤ 1000000000) (hB : Blk W B 80 #[.bool rm, fv]) :
    W.cell? (ad.add (k * 3)) = some (.string xn) ∧ W.cell? ⟨(ad.add (k * 3)).block, (ad.add (k * 3)).off + 1, none⟩ = some (.string xv) ∧ W.cell? ⟨B, 1, none⟩ = some fv ∧ (Instr.lookup 105 (.map (some w.heap.size)) (.string xn) false).run Tryz.prog W = .ok (.bool (((l.take k).map nmOf).contains xn.data.toList)) W := by
  obtain ⟨_, _, _, hm, hr⟩ := h
  obtain ⟨ad', e, h0, h1, _⟩ := hr.at_ hk
  obtain rfl := Option.some.inj e
  rw [hx] at h0 h1
  exact ⟨h0, h1, hB.cell 1, run_met hm xn (by simp only [maxLen]; omega)⟩
end
theorem SpJ.other {w wr W : World} {g : Nat} {T : TypeId} {cells : σ → Array Value} {rs : List (RuleF σ × Value)} {A : Option Addr} {n : Nat} {l : List HdrV} {mb nb : Nat} {s0 s : σ} {k R : Nat} (h : SpJ w g T cells rs A n l mb nb s0 k s wr) (c : SpC w g mb A n) (hr : Hr w A n l) (hg : wr.grownBy W (some R)) (hR : w.heap.size < R) : SpJ w g T cells rs A n l mb nb s0 k s W := by
  have h1 := h.grown.andThen hg (fun j e => .inl (by injection e with e; omega))
  exact ⟨h1, h.st.grown hg (fun e => by have := c.lg; injection e with e; omega), h.rules.kept hg (fun e => by have := c.lmb; injection e with e; omega), h.met.kept hg (fun e => by injection e with e; omega), hr.grown h1 (fun hp ad e => by simp [c.a hp ad e]), h.col, h.pre⟩
/-- What has come is a rule. -/
theorem rd_entry {D : DataW Value} {rs : List (RuleF σ × Value)} (h : RD D rs) {nm : List UInt8} {m : Bool} {v : Value} (hat : ∀ z, D.atKey (lt nm) z = .held (.agg #[.bool m, v])) : ∃ r ∈ rs, rs.find? (fun r => r.1.name == nm) = some r ∧ m = r.1.must ∧ v = r.2 ∧ r.1.name = nm := by
  have hh := Maps.has_true_of_atKey hat
  cases hf : rs.find? (fun r => r.1.name == nm) with
  | none => rw [(h.2 nm).1 hf] at hh; cases hh
  | some r =>
    have h2 := ((h.2 nm).2 r hf).2 (.lit (.bool false))
    rw [hat] at h2
    simp at h2
    exact ⟨r, List.mem_of_find?_eq_some hf, rfl, h2.1, h2.2, by simpa using List.find?_some hf⟩
theorem find_self : ∀ {rs : List (RuleF σ × Value)}, (rs.map (·.1.name)).Nodup → ∀ r ∈ rs, rs.find? (fun q => q.1.name == r.1.name) = some r
  | [], _, r, hr => by cases hr
  | x :: rs, hn, r, hr => by
    simp only [List.map_cons, List.nodup_cons] at hn
    rcases List.mem_cons.1 hr with rfl | hr
    · simp
    · have hne : x.1.name ≠ r.1.name := fun e => hn.1 (List.mem_map.2 ⟨r, hr, e.symm⟩)
      rw [List.find?_cons_of_neg (by simpa using hne)]
      exact find_self hn.2 r hr
theorem musts_true {rs : List (RuleF σ × Value)} {met : List (List UInt8)} (hn : (rs.map (·.1.name)).Nodup) (hg : ∀ nm r, rs.find? (fun q => q.1.name == nm) = some r → (!r.1.must || met.contains nm) = true) : musts (rs.map (·.1)) met = true := by
  unfold musts
  rw [List.all_eq_true]
  intro r hr
  obtain ⟨q, hq, rfl⟩ := List.mem_map.1 hr
  exact hg _ _ (find_self hn q hq)
theorem musts_false {rs : List (RuleF σ × Value)} {met : List (List UInt8)} {r : RuleF σ × Value} (hr : r ∈ rs) (h : (!r.1.must || met.contains r.1.name) = false) : musts (rs.map (·.1)) met = false := by
  rw [Bool.eq_false_iff]
  intro hm
  have := List.all_eq_true.1 hm _ (List.mem_map.2 ⟨r, hr, rfl⟩)
  rw [h] at this
  cases this
theorem key_str_inv (key : Value) (kl : Lit) (h : keyOf Tryz.prog 9 key = some kl) : ∃ x : ByteArray, key = .string x := by
  cases key <;> simp [keyOf, Tryz.underlying9, mapKey] at h
  exact ⟨_, rfl⟩
theorem key_str_val (x : ByteArray) (kl : Lit) (h : keyOf Tryz.prog 9 (.string x) = some kl) : kl = lt x.data.toList ∧ x.size ≤ maxLen := by
  simp [keyOf, Tryz.underlying9, mapKey] at h
  exact ⟨h.2.symm, h.1⟩
structure RVal where
  m : Bool
  v : Value
def mkR (p : RVal) : Value := .agg #[.bool p.m, p.v]
theorem val_inv (v : Value) (y : DataW Value × List MemPlace) (h : R6 v = some y) : ∃ c, v = mkR c := by
  obtain ⟨b, f, rfl, _⟩ := R6_inv h
  exact ⟨⟨b, f⟩, rfl⟩
theorem step_app_h {ops : Array Oper} {o : Oper} {a : Act} {K : Act → World → Prop} {Q : Exit → Act → World → Prop} {E : Prop} (w : World) (hgd : o.guard = none) (x : Operand)
    (ho : o.op = .call { callee := .builtin .append, args := #[.const (.slice none 0 0), x], argTypes := #[22, 22] })
    (A : Option Addr) (n c : Nat) (l : List HdrV) (hx : a.eval x = .slice A n c) (hr : Hr w A n l) (hb : n ≤ 100000)
    (h : ∀ A' c' w', Hw w' w.heap.size (.slice A' n c') l → Below w.heap.size w w' → K (a.put o.dst (.slice A' n c')) w') :
    if Region.wanted o (yielded ops a.tmps) = true then Oper.wp Tryz.prog o a w K Q else E := by
  have hw : Region.wanted o (yielded ops a.tmps) = true := by simp [Region.wanted, hgd]
  rw [if_pos hw]
  obtain ⟨v', w', hrun, r1, r2⟩ := run_app_h w o.type A n c l hr hb
  obtain ⟨A', c', rfl, _⟩ := r1.form
  rw [hr.1] at hrun r1
  unfold Oper.wp execOp
  have e : a.eval (.const (.slice none 0 0)) = .slice none 0 0 := rfl
  simp only [ho, resolve, invoke, builtin, Sem.run_bind, Sem.run_pure, Result.andThen_ok, List.map_toArray, List.map_cons, List.map_nil, e, hx, hrun]
  exact h A' c' w' r1 r2
end Go.Proofs.YtoafmhbgbofgoaaGreatDoor
