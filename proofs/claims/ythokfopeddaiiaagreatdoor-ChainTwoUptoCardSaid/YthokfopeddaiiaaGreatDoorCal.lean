/-
  Calls, answers, rules, lists of headers: how they lie in memory.
-/
import Derived.Test.YthokfopeddaiiaaGreatDoorProg
import Derived.Test.YthokfopeddaiiaaGreatDoorFn
import Derived.Laws.AppendOwn
import Derived.Maps.AppendAt
import Derived.Laws.OwnMore
import Derived.Deep.AppendLies
import Derived.OwnWalk
import Derived.WalkSpells
import Derived.Lib.LazyBuf
namespace Go.Proofs.YthokfopeddaiiaaGreatDoor
open Go.RowKit Go.Own Go.Own.Fn
structure HdrV where
  name : ByteArray
  value : ByteArray
  never : Bool
structure CallV where
  path : ByteArray
  hs : List HdrV
  body : List UInt8
structure AnsV where
  code : Int
  text : ByteArray
  hs : List HdrV
  body : List UInt8
structure RuleV where
  path : ByteArray
  name : ByteArray
  value : ByteArray
  kind : Int
  code : Int
  n : Int
def RuleV.cells (r : RuleV) : Array Value := #[.string r.path, .string r.name, .string r.value, .int .i64 r.kind, .int .i64 r.code, .int .i64 r.n]
def hcell (h : HdrV) : List Value := [.string h.name, .string h.value, .bool h.never]
def hcells (l : List HdrV) : List Value := l.flatMap hcell
theorem hcells_len (l : List HdrV) : (hcells l).length = l.length * 3 := by
  induction l with
  | nil => rfl
  | cons h l ih => simp [hcells, hcell] at ih ⊢; omega
theorem hcells_append (a b : List HdrV) : hcells (a ++ b) = hcells a ++ hcells b := by simp [hcells]
theorem hcells_one (l : List HdrV) : ∀ u ∈ hcells l, u.oneCell' = true := by
  intro u hu
  simp [hcells, hcell] at hu
  obtain ⟨h, _, h1⟩ := hu
  rcases h1 with rfl | rfl | rfl <;> rfl
theorem hcells_at (l : List HdrV) (j : Nat) (hj : j < l.length) : (hcells l)[j * 3]? = some (.string l[j].name) ∧ (hcells l)[j * 3 + 1]? = some (.string l[j].value) ∧ (hcells l)[j * 3 + 2]? = some (.bool l[j].never) := by
  induction l generalizing j with
  | nil => simp at hj
  | cons h l ih =>
    cases j with
    | zero => simp [hcells, hcell]
    | succ j =>
      have := ih j (by simpa using hj)
      have e : hcells (h :: l) = hcell h ++ hcells l := rfl
      rw [e]
      have h3 : (hcell h).length = 3 := rfl
      refine ⟨?_, ?_, ?_⟩
      · rw [List.getElem?_append_right (by rw [h3]; omega), h3, show (j + 1) * 3 - 3 = j * 3 by omega]; simpa using this.1
      · rw [List.getElem?_append_right (by rw [h3]; omega), h3, show (j + 1) * 3 + 1 - 3 = j * 3 + 1 by omega]; simpa using this.2.1
      · rw [List.getElem?_append_right (by rw [h3]; omega), h3, show (j + 1) * 3 + 2 - 3 = j * 3 + 2 by omega]; simpa using this.2.2
/-- The slice v owns the headers l, from block base on. -/
def Hw (w : World) (base : Nat) (v : Value) (l : List HdrV) : Prop := w.ownsRow base 34 3 v l.length (hcells l)
theorem Hw.form {w : World} {base : Nat} {v : Value} {l : List HdrV} (h : Hw w base v l) : ∃ A c, v = .slice A l.length c ∧ l.length ≤ c ∧ c ≤ maxLen := by
  rcases h.2 with ⟨rfl, h0⟩ | ⟨g, cap, cur, rfl, hb, hg, hn, hm, _⟩
  · exact ⟨none, 0, by rw [h0], by omega, by simp [maxLen]⟩
  · exact ⟨_, cap, rfl, hn, hm⟩
theorem Hw.base {w : World} {base base' : Nat} {v : Value} {l : List HdrV} (h : Hw w base v l) (hb : base' ≤ base) : Hw w base' v l := by
  refine ⟨h.1, ?_⟩
  rcases h.2 with h0 | ⟨g, cap, cur, e, hb', rest⟩
  · exact .inl h0
  · exact .inr ⟨g, cap, cur, e, Nat.le_trans hb hb', rest⟩
theorem Hw.lt {w : World} {base : Nat} {v : Value} {l : List HdrV} (h : Hw w base v l) : ∀ k, v.ownBlock = some k → base ≤ k ∧ k < w.heap.size := World.ownsRow.lt h
theorem Hw.grown {w w' : World} {base : Nat} {v : Value} {l : List HdrV} {row : Option Nat} (h : Hw w base v l) (hg : w.grownBy w' row) (hne : v.ownBlock = none ∨ v.ownBlock ≠ row) : Hw w' base v l := World.ownsRow.kept h hg hne
theorem own_or (v : Value) : v.ownBlock = none ∨ v.ownBlock ≠ none := by cases v.ownBlock <;> simp
theorem Hw.below {w w' : World} {base : Nat} {v : Value} {l : List HdrV} (h : Hw w base v l) (hb : Below w.heap.size w w') : Hw w' base v l := h.grown (grown_of_below hb none) (own_or v)
theorem Hw.nil (w : World) (base : Nat) : Hw w base (.slice none 0 0) [] := ⟨rfl, .inl ⟨rfl, rfl⟩⟩
theorem Hw.kt {ts : TypeId → Prop} {w w' : World} {base : Nat} {v : Value} {l : List HdrV} (h : Hw w base v l) (ht : ts 34) (hk : Kt ts w w') : Hw w' base v l := by
  refine ⟨h.1, ?_⟩
  rcases h.2 with h0 | ⟨g, cap, cur, e, hb', hg, rest⟩
  · exact .inl h0
  · exact .inr ⟨g, cap, cur, e, hb', hk g _ cur ht hg, rest⟩
theorem owKt {ts : TypeId → Prop} {w w' : World} {base n : Nat} {e : TypeId} {v : Value} {l : List UInt8} (h : Ow w base e v n l) (ht : ts e) (hk : Kt ts w w') : Ow w' base e v n l := by
  refine ⟨h.1, ?_⟩
  rcases h.2 with h0 | ⟨g, cap, cur, e', hb', hg, rest⟩
  · exact .inl h0
  · exact .inr ⟨g, cap, cur, e', hb', hk g _ cur ht hg, rest⟩
/-- How a call and its answer lie in memory, k interceptors in. -/
def RXk (k : Nat) (w : World) (v : Value) (x : CallV) : Prop :=
  ∃ hv bv, v = .agg #[.string x.path, hv, bv] ∧ Hw w 0 hv x.hs ∧ Ow w 0 5 bv x.body.length x.body ∧ x.hs.length ≤ 100 + k ∧ x.body.length ≤ 1000000000
def RYk (k : Nat) (w : World) (v : Value) (y : AnsV) : Prop :=
  ∃ hv bv, v = .agg #[.int .i64 y.code, .string y.text, hv, bv] ∧ Hw w 0 hv y.hs ∧ Ow w 0 5 bv y.body.length y.body ∧ y.hs.length + k ≤ 1000 ∧ y.body.length ≤ 1000000000
def callL (k : Nat) : Lvl CallV AnsV := ⟨RXk k, RYk k⟩
def notAns (t : TypeId) : Prop := t ≠ 39
theorem owSlc {w : World} {base n : Nat} {e : TypeId} {v : Value} {l : List UInt8} (h : Ow w base e v n l) : ∃ A c, v = .slice A n c := by
  obtain ⟨A, c, e, _⟩ := h.form
  exact ⟨A, c, e⟩
theorem shaped_call (k : Nat) : Shaped (callL k) := by
  constructor
  · rintro w xv x ⟨hv, bv, rfl, h1, h2, _⟩
    obtain ⟨A, c, rfl, _⟩ := h1.form
    obtain ⟨A2, c2, rfl⟩ := (owSlc h2)
    exact ⟨_, _, _, _, _, _, _, rfl⟩
  · rintro w yv y ⟨hv, bv, rfl, h1, h2, _⟩
    obtain ⟨A, c, rfl, _⟩ := h1.form
    obtain ⟨A2, c2, rfl⟩ := (owSlc h2)
    exact ⟨_, _, _, _, _, _, _, _, rfl⟩
/-- A state that lies in blocks of other types than answers'. -/
def KeepsSt {σ : Type} (S : Stt σ) : Prop := ∀ s w w', Kt notAns w w' → S.St s w → S.St s w'
theorem keepers_call {σ : Type} {S : Stt σ} (hS : KeepsSt S) (k : Nat) : Keepers notAns S (callL k) := by
  refine ⟨fun {s w w'} hk h => hS s w w' hk h, ?_, ?_⟩
  · rintro xv x w w' hk ⟨hv, bv, rfl, h1, h2, h3⟩
    exact ⟨hv, bv, rfl, h1.kt (by unfold notAns; decide) hk, owKt h2 (by unfold notAns; decide) hk, h3⟩
  · rintro yv y w w' hk ⟨hv, bv, rfl, h1, h2, h3⟩
    exact ⟨hv, bv, rfl, h1.kt (by unfold notAns; decide) hk, owKt h2 (by unfold notAns; decide) hk, h3⟩
theorem steady_of_keeps {σ : Type} {S : Stt σ} (hS : KeepsSt S) : Steady S := fun s w w' hb h => hS s w w' (Kt.below hb) h
theorem infoH : ∃ i, Tryz.prog.info? 34 = some i ∧ i.zero = some (.agg #[.string ⟨#[]⟩, .string ⟨#[]⟩, .bool false]) ∧ i.size = 3 ∧ i.bytes = 40 :=
  info_parts (show (Tryz.prog.info? 34).map (fun i => (i.zero, i.size, i.bytes)) = some (some (.agg #[.string ⟨#[]⟩, .string ⟨#[]⟩, .bool false]), 3, 40) by kernel_rfl)
theorem byteP : ByteP Tryz.prog 24 5 := ⟨Tryz.underlying24, info_parts (show (Tryz.prog.info? 5).map (fun i => (i.zero, i.size, i.bytes)) = some (some (.int .u8 0), 1, 1) by kernel_rfl)⟩
set_option maxRecDepth 100000 in
theorem clone_h (v : Value) (l : List HdrV) (w : World) (hn : l.length ≤ 100000) (hx : Hw w 0 v l) :
    Calls Tryz.prog 57 #[v] w fun e w' => ∃ v', e = .returned v' ∧ Hw w' w.heap.size v' l ∧ Below w.heap.size w w' := by
  have HX := Lib.hid hx
  have HN := Lib.hid hn
  obtain ⟨A, c, rfl, _⟩ := hx.form
  clear hx hn
  rcases A with _ | ad
  · obtain rfl : l = [] := by
      rcases HX.out.2 with ⟨e, h0⟩ | ⟨g, cap, cur, e, _⟩
      · exact List.eq_nil_of_length_eq_zero h0
      · cases e
    have hq : ∀ W, (binOp .eql 23 (.slice none 0 c) (.slice none 0 0)).run Tryz.prog W = .ok (.bool true) W := fun W => Go.run_eql_slice_nil W _ _ _ _ _ Tryz.underlying23
    go_enter Tryz.func57, Tryz.ntmps57
    go_wp2
    go_ret
    exact ⟨_, rfl, Hw.nil _ _, Below.refl _ _⟩
  · obtain ⟨i0, hi, hz0, hz1, hz2⟩ := infoH
    have HI := Lib.hid (And.intro hi (And.intro hz0 (And.intro hz1 hz2)))
    clear hi hz0 hz1 hz2
    obtain ⟨n, hn⟩ : ∃ n, l.length = n := ⟨_, rfl⟩
    rw [hn]
    have HNn := Lib.hid hn
    clear hn
    have hq : ∀ W, (binOp .eql 23 (.slice (some ad) n c) (.slice none 0 0)).run Tryz.prog W = .ok (.bool false) W := fun W => Go.run_eql_slice_nil W _ _ _ _ _ Tryz.underlying23
    go_enter Tryz.func57, Tryz.ntmps57
    go_wp2_with (first
        | (at_builtin
           refine wpList_append_own_at _ rfl _ _ 23 rfl w.heap.size 34 i0 (.agg #[.string ⟨#[]⟩, .string ⟨#[]⟩, .bool false]) 3 40 Tryz.underlying23 HI.out.1 HI.out.2.1 HI.out.2.2.1 HI.out.2.2.2 rfl (by decide) (.slice (some ⟨w.heap.size, 0, none⟩) 0 0) 0 [] rfl (World.ownsRow_lit w #[] 0 (Nat.le_refl _) (by decide) rfl) ad n c (hcells l) rfl ?_ ?_ ?_ ?_ ?_ ?_ ?_
           · rw [hcells_len, HNn.out]
           · intro j u hu
             obtain ⟨g, e⟩ : ∃ g, ad = ⟨g, 0, none⟩ := by
               rcases HX.out.2 with ⟨e, _⟩ | ⟨g, cap, cur, e, _⟩
               · cases e
               · injection e with e1 _ _; injection e1 with e1; exact ⟨g, e1⟩
             subst e
             have hc := World.ownsRow.cells HX.out (g := g) rfl j u hu
             exact (World.cell?_alloc_lt w _ _ (by rw [add_block]; exact (HX.out.lt g rfl).2)).trans hc
           · exact hcells_one l
           · have := HN.out; have := HNn.out; simp only [maxLen]; omega
           · have := HN.out; have := HNn.out; omega
           · simp
           intro v' w3 hown hgr _ hv
           have HS := Lib.hid (And.intro hown hgr)
           clear hown hgr hv))
    have hown := HS.out.1
    rw [Nat.zero_add, List.nil_append] at hown
    have hb : Below w.heap.size w w3 := by
      have h1 : Below w.heap.size w (w.alloc (.cells #[] 34)) := (Below.refl _ _).alloc (Nat.le_refl _) _
      exact h1.grown HS.out.2 (by simp) (fun g hg => by simp [Value.ownBlock] at hg; omega)
    have HR : Hid (Hw w3 w.heap.size v' l ∧ Below w.heap.size w w3) := Lib.hid ⟨by unfold Hw; rw [HNn.out]; exact hown, hb⟩
    clear HS hown hb
    obtain ⟨A', c', rfl, _⟩ := HR.out.1.form
    go_wp2
    go_ret
    exact ⟨_, rfl, HR.out.1, HR.out.2⟩
end Go.Proofs.YthokfopeddaiiaaGreatDoor
