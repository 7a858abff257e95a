/-
  Contracts: head.Name, head.blank, strings.ContainsAny at three signs, head.Value, head.plain.
  Lists of headers: how they lie in memory; append, slices, sameness.
  A range over a function, at the wide fence: the loop and its rounds, where the body is told of the memory of what it is handed.
  Values that are functions: what they answer, for every state in which they are asked. No program.
  Maps of rules and of names that were met: how they lie in memory; what is looked up in them, and laid into them.
  Runes in plain words: what is read at a place of any text; how a rune beyond the plain ones is written.
  Contracts: strings.IndexRune, IndexAny, ContainsAny at three plain signs, any text; head.Value; head.plain.
  Contracts: head.Value, head.plain.
  Contracts: head.plain, head.Trailers.
-/
import Derived.Test.YtkpppjhbmnfmkaaGreatDoorBase
import Derived.Test.YtkpppjhbmnfmkaaGreatDoorShelf
import Derived.Test.YtkpppjhbmnfmkaaGreatDoorJb
import Derived.WalkKit
import Derived.Outline
import Derived.LoopTactic
import Derived.Laws.RangeAny
import Derived.Laws.Strings3
import Derived.Deep.LoopGhost
import Derived.Laws.AppendOwn
import Derived.Maps.AppendAt
import Derived.Laws.OwnMore
import Derived.Deep.AppendLies
import Derived.OwnWalk
import Derived.WalkSpells
import Derived.Lib.LazyBuf
import Derived.Deep.RegionWith
import Derived.RangeFuncNested
import Derived.RangeFuncBound
import Derived.RangeFuncCalls
import Derived.RangeFuncLeaves
import Derived.Shelf.Abstract
import Derived.Shelf.RegionOpen
import Derived.OwnWalkIn
import Derived.TacticsInMore
import Derived.LoopNIn
import Derived.LoopIn
import Derived.Maps.OwnSet
import Derived.Maps.OwnOps
import Derived.Maps.RangeWalk
import Derived.Maps.StringElems
import Derived.Lib.OthersKept
import Derived.Lib.IndexAny
import Derived.Lib.IndexBytes
import Derived.Lib.Strings
import Derived.Lib.Walk
import Derived.Deep.QuietTactic
import Derived.BigQuiet
import Derived.WalkMore
set_option linter.unusedSimpArgs false
set_option linter.unusedVariables false
section
namespace Go.Proofs.YtkpppjhbmnfmkaaGreatDoor.H6
open Go.RowKit Go.Own Go.Own.Hd
/-- What the walks read of package-level variables. -/
structure EnvH (w : World) (e1 e2 e3 : Addr) : Prop where
  head : w.cell? ⟨0, 0, none⟩ = some (.iface 327 (.pointer (some e1)))
  synt : w.cell? ⟨14, 0, none⟩ = some (.iface 327 (.pointer (some e2)))
  rang : w.cell? ⟨15, 0, none⟩ = some (.iface 327 (.pointer (some e3)))
  top : ∃ m, w.cell? ⟨13, 0, none⟩ = some (.int .i64 m)
  pow : Lib.TabIs Tryz.prog w "internal/strconv.uint64pow10" .u64 Lib.pow10Tab
  room : 20 ≤ w.heap.size
theorem EnvH.kept {w w' : World} {e1 e2 e3 : Addr} (he : EnvH w e1 e2 e3) (hk : ∀ i, i < 20 → w'.heap[i]? = w.heap[i]?) (hz : 20 ≤ w'.heap.size) : EnvH w' e1 e2 e3 := by
  have hc : ∀ i, i < 20 → ∀ o, w'.cell? ⟨i, o, none⟩ = w.cell? ⟨i, o, none⟩ := fun i hi o => World.cell?_of_block (hk i hi)
  obtain ⟨m, hm⟩ := he.top
  refine ⟨(hc _ (by decide) _).trans he.head, (hc _ (by decide) _).trans he.synt, (hc _ (by decide) _).trans he.rang, ⟨m, (hc _ (by decide) _).trans hm⟩, ?_, hz⟩
  have ht := he.pow
  unfold Lib.TabIs World.var? at ht ⊢
  rw [show Tryz.prog.globalNamed "internal/strconv.uint64pow10" = some 17 by kernel_rfl] at ht ⊢
  simp only [Option.bind_some] at ht ⊢
  rw [hk _ (by decide)]
  exact ht
theorem EnvH.below {w w' : World} {B : Nat} {e1 e2 e3 : Addr} (he : EnvH w e1 e2 e3) (hb : Below B w w') (hB : 20 ≤ B) : EnvH w' e1 e2 e3 :=
  he.kept (fun i hi => hb.block i (by omega)) (Nat.le_trans he.room hb.size)
theorem EnvH.grown {w w' : World} {row : Option Nat} {e1 e2 e3 : Addr} (he : EnvH w e1 e2 e3) (hb : w.grownBy w' row) (hr : ∀ g, row = some g → 20 ≤ g) : EnvH w' e1 e2 e3 :=
  he.kept (fun i hi => hb.block i (by have := he.room; omega) (fun e => by have := hr i e.symm; omega)) (Nat.le_trans he.room hb.size)
theorem idx_str {P : Program} {t : TypeId} (ht : P.underlying t = some .string) (s : ByteArray) (k : Nat) (i : Int) (hi : i = (k : Int)) (hk : k < s.size) (W : World) :
    (Instr.index t (.string s) (.int .i64 i)).run P W = .ok (.int .u8 ((s.data.toList.getD k 0).toNat : Int)) W := by
  subst hi
  have hk2 : (k : Int) < (s.size : Int) := by omega
  have e : s.data.toList.getD k 0 = s[k] := by
    rw [List.getD, List.getElem?_eq_getElem (by simpa using hk)]
    rfl
  simp [Instr.index, run_underlying ht, asIntOf, hk, e]
  rfl
theorem all_take_succ (l : List UInt8) (p : UInt8 → Bool) (k : Nat) (hk : k < l.length) (h : (l.take k).all p = true) (hp : p (l.getD k 0) = true) : (l.take (k + 1)).all p = true := by
  rw [List.take_succ_eq_append_getElem hk, List.all_append, h]
  have : l.getD k 0 = l[k] := by simp [List.getD, hk]
  rw [← this]
  simp only [List.all_cons, List.all_nil, hp, Bool.and_true, Bool.true_and]
theorem all_not (l : List UInt8) (p : UInt8 → Bool) (k : Nat) (hk : k < l.length) (hp : p (l.getD k 0) = false) : l.all p = false := by
  rw [Bool.eq_false_iff]
  intro h
  have := List.all_eq_true.1 h (l[k]) (List.getElem_mem hk)
  have e : l.getD k 0 = l[k] := by simp [List.getD, hk]
  rw [e] at hp
  rw [hp] at this
  cases this

def NamePost (l : List UInt8) (w : World) (e : Ending) (w' : World) : Prop := e = .returned (.bool (nameB l)) ∧ w = w'

set_option maxHeartbeats 2000000 in
set_option maxRecDepth 100000 in
theorem name_any (t : ByteArray) (w : World) {e1 e2 e3 : Addr} (he : EnvH w e1 e2 e3) (hsz : t.size ≤ 1000000000) :
    Calls Tryz.prog 211 #[.string t] w (NamePost t.data.toList w) := by
  obtain ⟨m, hm⟩ := he.top
  have HC : ∀ sub : ByteArray, Hid (Calls Tryz.prog 231 #[.string ⟨#[33, 35, 36, 37, 38, 39, 42, 43, 45, 46, 94, 95, 96, 124, 126]⟩, .string sub] w fun e w' => e = .returned (.bool (Lib.contains signs sub.data.toList)) ∧ w = w') := fun sub =>
    Lib.hid ((Tryz.strings_Contains ⟨#[33, 35, 36, 37, 38, 39, 42, 43, 45, 46, 94, 95, 96, 124, 126]⟩ sub m w (by decide) hm).mono fun _ _ h => ⟨h.1, h.2.symm⟩)
  clear he hm
  go_enter Tryz.func211, Tryz.ntmps211
  go_wp2
  go_loop [7] (fun i => ∃ k : Nat, k ≤ t.size ∧ i = .int .i64 k ∧ Hid ((t.data.toList.take k).all nameC = true)) (fun i => t.size - (intOf i).toNat)
  case atStart => exact ⟨0, by omega, rfl, Lib.hid (by simp)⟩
  case round =>
    obtain ⟨k, hk, rfl, HA⟩ := hrel
    by_cases hlt : k < t.size
    · have hi0 := idx_str (P := Tryz.prog) Tryz.underlying9 t k (k : Int) rfl hlt
      obtain ⟨c, hc⟩ : ∃ c, t.data.toList.getD k 0 = c := ⟨_, rfl⟩
      rw [hc] at hi0
      obtain ⟨x, hx⟩ : ∃ x, c.toNat = x := ⟨_, rfl⟩
      rw [hx] at hi0
      have hx256 : x < 256 := by rw [← hx]; exact c.toNat_lt
      have HX := Lib.hid hx
      have HCC := Lib.hid hc
      clear hc hx
      by_cases h1 : (97 ≤ x ∧ x ≤ 122) ∨ (48 ≤ x ∧ x ≤ 57)
      · have HN : Hid ((t.data.toList.take (k + 1)).all nameC = true) := Lib.hid (all_take_succ _ _ _ hlt HA.out (by
          rw [HCC.out]
          unfold nameC
          rw [HX.out]
          rcases h1 with h | h <;> simp [h]))
        rcases h1 with ⟨l1, l2⟩ | ⟨l1, l2⟩
        all_goals
          go_wp2
          exact ⟨⟨k + 1, by omega, by go_num, HN⟩, by simp [intOf]; omega⟩
      · obtain ⟨b, hb⟩ : ∃ b, Lib.contains signs (Utf8.encode (x : Int)).data.toList = b := ⟨_, rfl⟩
        have hcon := (HC (Utf8.encode (x : Int))).out
        rw [hb] at hcon
        have HCON := Lib.hid hcon
        have hn : nameC (t.data.toList.getD k 0) = b := by
          rw [HCC.out]
          unfold nameC
          rw [HX.out, hb]
          have g1 : ¬ (97 ≤ x ∧ x ≤ 122) := fun h => h1 (.inl h)
          have g2 : ¬ (48 ≤ x ∧ x ≤ 57) := fun h => h1 (.inr h)
          simp [g1, g2]
        have HNN := Lib.hid hn
        have g1 : x < 97 ∨ 122 < x := by omega
        have g2 : x < 48 ∨ 57 < x := by omega
        clear hn hcon hb h1
        rcases b with _ | _
        · have HF : Hid (nameB t.data.toList = false) := Lib.hid (by unfold nameB; rw [all_not _ _ _ hlt HNN.out]; simp)
          rcases g1 with g1 | g1
          all_goals
            rcases g2 with g2 | g2
            all_goals first
              | omega
              | (go_wp2_with ((with_reducible refine (HCON.out).mono ?_); rintro e w' ⟨rfl, rfl⟩)
                 go_ret
                 exact ⟨by rw [HF.out]; rfl, rfl⟩)
        · have HN := Lib.hid (all_take_succ _ _ _ hlt HA.out HNN.out)
          rcases g1 with g1 | g1
          all_goals
            rcases g2 with g2 | g2
            all_goals first
              | omega
              | (go_wp2_with ((with_reducible refine (HCON.out).mono ?_); rintro e w' ⟨rfl, rfl⟩)
                 exact ⟨⟨k + 1, by omega, by go_num, HN⟩, by simp [intOf]; omega⟩)
    · have hk2 : k = t.size := by omega
      have HF : Hid (nameB t.data.toList = !t.toList.isEmpty) := Lib.hid (by
        have := HA.out
        rw [hk2, List.take_of_length_le (Nat.le_refl t.size)] at this
        unfold nameB
        rw [this, Lib.toList_data]
        simp)
      clear hk2
      go_wp2
      go_ret
      exact ⟨by rw [HF.out]; rfl, rfl⟩

theorem blank_any (c : UInt8) (x : Int) (hx : x = (c.toNat : Int)) (w : World) : Calls Tryz.prog 168 #[.int .u8 x] w fun e w' => e = .returned (.bool (blankB c)) ∧ w = w' := by
  subst hx
  have h1 : (((c.toNat : Nat) : Int) == 32) = (c == 32) := by
    rw [Bool.eq_iff_iff]; simp only [beq_iff_eq]
    constructor
    · intro h; exact UInt8.toNat_inj.1 (by simpa using (by omega : c.toNat = 32))
    · rintro rfl; rfl
  have h2 : (((c.toNat : Nat) : Int) == 9) = (c == 9) := by
    rw [Bool.eq_iff_iff]; simp only [beq_iff_eq]
    constructor
    · intro h; exact UInt8.toNat_inj.1 (by simpa using (by omega : c.toNat = 9))
    · rintro rfl; rfl
  have HB : Hid (blankB c = (((c.toNat : Nat) : Int) == 32 || ((c.toNat : Nat) : Int) == 9)) := Lib.hid (by rw [h1, h2]; rfl)
  clear h1 h2
  obtain ⟨x, hx⟩ : ∃ x : Int, ((c.toNat : Nat) : Int) = x := ⟨_, rfl⟩
  rw [hx] at HB ⊢
  clear hx
  by_cases g1 : x = 32
  · subst g1
    go_enter Tryz.func168, Tryz.ntmps168
    go_wp2
    go_ret
    exact ⟨by rw [HB.out]; rfl, rfl⟩
  · have g2 : (x == 32) = false := by rw [beq_eq_false_iff_ne]; exact g1
    go_enter Tryz.func168, Tryz.ntmps168
    go_wp2
    go_ret
    exact ⟨by rw [HB.out, g2]; rfl, rfl⟩
end Go.Proofs.YtkpppjhbmnfmkaaGreatDoor.H6
end

section
namespace Go.Proofs.YtkpppjhbmnfmkaaGreatDoor.H6
open Go.RowKit Go.Own Go.Own.Hd
def hcell (h : HdrV) : List Value := [.string h.name, .string h.value, .bool h.never]
def hcells (l : List HdrV) : List Value := l.flatMap hcell
theorem hcells_len (l : List HdrV) : (hcells l).length = l.length * 3 := by
  induction l with
  | nil => rfl
  | cons h l ih => simp [hcells, hcell] at ih ⊢; omega
theorem hcells_append (a b : List HdrV) : hcells (a ++ b) = hcells a ++ hcells b := by simp [hcells]
theorem hcells_one (l : List HdrV) : ∀ u ∈ hcells l, u.oneCell' = true := by
  intro u hu
  simp [hcells, hcell] at hu
  obtain ⟨h, _, h1⟩ := hu
  rcases h1 with rfl | rfl | rfl <;> rfl
theorem hcells_at (l : List HdrV) (j : Nat) (hj : j < l.length) : (hcells l)[j * 3]? = some (.string l[j].name) ∧ (hcells l)[j * 3 + 1]? = some (.string l[j].value) ∧ (hcells l)[j * 3 + 2]? = some (.bool l[j].never) := by
  induction l generalizing j with
  | nil => simp at hj
  | cons h l ih =>
    cases j with
    | zero => simp [hcells, hcell]
    | succ j =>
      have := ih j (by simpa using hj)
      have e : hcells (h :: l) = hcell h ++ hcells l := rfl
      rw [e]
      have h3 : (hcell h).length = 3 := rfl
      refine ⟨?_, ?_, ?_⟩
      · rw [List.getElem?_append_right (by rw [h3]; omega), h3, show (j + 1) * 3 - 3 = j * 3 by omega]; simpa using this.1
      · rw [List.getElem?_append_right (by rw [h3]; omega), h3, show (j + 1) * 3 + 1 - 3 = j * 3 + 1 by omega]; simpa using this.2.1
      · rw [List.getElem?_append_right (by rw [h3]; omega), h3, show (j + 1) * 3 + 2 - 3 = j * 3 + 2 by omega]; simpa using this.2.2
/-- The slice v owns the headers l, from block base on. -/
def Hw (w : World) (base : Nat) (v : Value) (l : List HdrV) : Prop := w.ownsRow base 63 3 v l.length (hcells l)
theorem Hw.form {w : World} {base : Nat} {v : Value} {l : List HdrV} (h : Hw w base v l) : ∃ A c, v = .slice A l.length c ∧ l.length ≤ c ∧ c ≤ maxLen := by
  rcases h.2 with ⟨rfl, h0⟩ | ⟨g, cap, cur, rfl, hb, hg, hn, hm, _⟩
  · exact ⟨none, 0, by rw [h0], by omega, by simp [maxLen]⟩
  · exact ⟨_, cap, rfl, hn, hm⟩
theorem Hw.base {w : World} {base base' : Nat} {v : Value} {l : List HdrV} (h : Hw w base v l) (hb : base' ≤ base) : Hw w base' v l := by
  refine ⟨h.1, ?_⟩
  rcases h.2 with h0 | ⟨g, cap, cur, e, hb', rest⟩
  · exact .inl h0
  · exact .inr ⟨g, cap, cur, e, Nat.le_trans hb hb', rest⟩
theorem Hw.lt {w : World} {base : Nat} {v : Value} {l : List HdrV} (h : Hw w base v l) : ∀ k, v.ownBlock = some k → base ≤ k ∧ k < w.heap.size := World.ownsRow.lt h
theorem Hw.grown {w w' : World} {base : Nat} {v : Value} {l : List HdrV} {row : Option Nat} (h : Hw w base v l) (hg : w.grownBy w' row) (hne : v.ownBlock = none ∨ v.ownBlock ≠ row) : Hw w' base v l := World.ownsRow.kept h hg hne
theorem own_or (v : Value) : v.ownBlock = none ∨ v.ownBlock ≠ none := by cases v.ownBlock <;> simp
theorem Hw.below {w w' : World} {base : Nat} {v : Value} {l : List HdrV} (h : Hw w base v l) (hb : Below w.heap.size w w') : Hw w' base v l := h.grown (grown_of_below hb none) (own_or v)
theorem Hw.nil (w : World) (base : Nat) : Hw w base (.slice none 0 0) [] := ⟨rfl, .inl ⟨rfl, rfl⟩⟩
theorem infoH : ∃ i, Tryz.prog.info? 63 = some i ∧ i.zero = some (.agg #[.string ⟨#[]⟩, .string ⟨#[]⟩, .bool false]) ∧ i.size = 3 ∧ i.bytes = 40 :=
  info_parts (show (Tryz.prog.info? 63).map (fun i => (i.zero, i.size, i.bytes)) = some (some (.agg #[.string ⟨#[]⟩, .string ⟨#[]⟩, .bool false]), 3, 40) by kernel_rfl)
/-- A slice of headers that came in. -/
def Hr (w : World) (A : Option Addr) (n : Nat) (l : List HdrV) : Prop :=
  l.length = n ∧ ∀ (j : Nat) u, (hcells l)[j]? = some u → ∃ ad, A = some ad ∧ ad.block < w.heap.size ∧ w.cell? (ad.add j) = some u
theorem Hr.below {w w' : World} {A : Option Addr} {n : Nat} {l : List HdrV} (h : Hr w A n l) (hb : Below w.heap.size w w') : Hr w' A n l :=
  ⟨h.1, fun j u hu => by
    obtain ⟨ad, e, h1, h2⟩ := h.2 j u hu
    exact ⟨ad, e, Nat.lt_of_lt_of_le h1 hb.size, (hb.cell (by rw [add_block]; exact h1)).trans h2⟩⟩
theorem Hw.hr {w : World} {base n c : Nat} {A : Option Addr} {l : List HdrV} (h : Hw w base (.slice A n c) l) : Hr w A n l := by
  have hn : l.length = n := by
    obtain ⟨A', c', e, _⟩ := h.form
    injection e with _ e _
    exact e.symm
  refine ⟨hn, fun j u hu => ?_⟩
  rcases h.2 with ⟨e, h0⟩ | ⟨g, cap, cur, e, _⟩
  · have : l = [] := List.eq_nil_of_length_eq_zero h0
    rw [this] at hu; simp [hcells] at hu
  · have e' := e
    injection e' with e1 _ _
    subst e1
    exact ⟨_, rfl, (World.ownsRow.lt h g rfl).2, World.ownsRow.cells h (g := g) rfl j u hu⟩
set_option maxRecDepth 100000 in
theorem run_app_h (w : World) (ty : TypeId) (A : Option Addr) (n c : Nat) (l : List HdrV) (hr : Hr w A n l) (hb : n ≤ 100000) :
    ∃ v' w', (Builtin.append_ #[41, 41] ty #[.slice none 0 0, .slice A n c]).run Tryz.prog w = .ok v' w' ∧ Hw w' w.heap.size v' l ∧ Below w.heap.size w w' := by
  obtain ⟨i, hi, hz, h1, h2⟩ := infoH
  rcases A with _ | ad
  · have hl : l = [] := by
      rcases l with _ | ⟨h, l⟩
      · rfl
      · obtain ⟨ad, e, _⟩ := hr.2 0 _ (show (hcells (h :: l))[0]? = some (.string h.name) from rfl)
        cases e
    subst hl
    obtain rfl : n = 0 := by have := hr.1; simpa using this.symm
    refine ⟨.slice none 0 0, w, ?_, Hw.nil _ _, Below.refl _ _⟩
    simp [Builtin.append_, run_underlying Tryz.underlying41, sizeOf, typeInfo, hi, Builtin.lenOf, Builtin.firstCells]
  · obtain ⟨v', w', hrun, r1, r2, _, r4⟩ := run_append_own_at (P := Tryz.prog) w w.heap.size 41 ty 63 i _ 3 40 Tryz.underlying41 hi hz h1 h2 rfl (by decide) (.slice none 0 0) 0 [] (World.ownsRow_nil _ _ _ _) ad n c (hcells l) (by rw [hcells_len, hr.1]) (fun j u hu => by
      obtain ⟨ad', e, _, h⟩ := hr.2 j u hu
      obtain rfl := Option.some.inj e
      exact h) (hcells_one l) (by simp only [maxLen]; omega) (by omega) (Nat.le_refl _)
    refine ⟨v', w', hrun, ?_, (Below.refl _ _).grown r2 (Nat.le_refl _) (fun k e => by simp [Value.ownBlock] at e)⟩
    unfold Hw
    rw [hr.1]
    rw [Nat.zero_add, List.nil_append] at r1
    exact r1
section
variable {ops : Array Oper} {rest : List Oper} {o : Oper} {a : Act} {Q : Exit → Act → World → Prop}
theorem wpList_app_h (w : World) (hgd : o.guard = none) (x : Operand) (ho : o.op = .call { callee := .builtin .append, args := #[.const (.slice none 0 0), x], argTypes := #[41, 41] })
    (A : Option Addr) (n c : Nat) (l : List HdrV) (hx : a.eval x = .slice A n c) (hr : Hr w A n l) (hb : n ≤ 100000)
    (h : ∀ A' c' w', Hw w' w.heap.size (.slice A' n c') l → Below w.heap.size w w' → wpList Tryz.prog ops Q rest (a.put o.dst (.slice A' n c')) w') : wpList Tryz.prog ops Q (o :: rest) a w := by
  refine wpList_plain hgd fun K hK => ?_
  obtain ⟨v', w', hrun, r1, r2⟩ := run_app_h w o.type A n c l hr hb
  obtain ⟨A', c', rfl, _⟩ := r1.form
  rw [hr.1] at hrun r1
  unfold Oper.wp execOp
  have e : a.eval (.const (.slice none 0 0)) = .slice none 0 0 := rfl
  simp only [ho, resolve, invoke, builtin, Sem.run_bind, Sem.run_pure, Result.andThen_ok, List.map_toArray, List.map_cons, List.map_nil, e, hx, hrun]
  exact hK _ _ (h A' c' w' r1 r2)
end
theorem run_app_hg (w : World) (ty : TypeId) (base : Nat) (v : Value) (l0 : List HdrV) (hown : Hw w base v l0) (A : Option Addr) (n c : Nat) (l : List HdrV) (hr : Hr w A n l) (hb : l0.length + n ≤ 1000) (hbase : base ≤ w.heap.size) :
    ∃ v' w', (Builtin.append_ #[41, 41] ty #[v, .slice A n c]).run Tryz.prog w = .ok v' w' ∧ Hw w' base v' (l0 ++ l) ∧ w.grownBy w' v.ownBlock ∧ (v'.ownBlock = v.ownBlock ∨ v'.ownBlock = some w.heap.size) := by
  obtain ⟨i, hi, hz, h1, h2⟩ := infoH
  rcases A with _ | ad
  · have hl : l = [] := by
      rcases l with _ | ⟨h, l⟩
      · rfl
      · obtain ⟨ad, e, _⟩ := hr.2 0 _ (show (hcells (h :: l))[0]? = some (.string h.name) from rfl)
        cases e
    subst hl
    obtain rfl : n = 0 := by have := hr.1; simpa using this.symm
    refine ⟨v, w, ?_, by simpa using hown, World.grownBy.refl w _, .inl rfl⟩
    rcases hown.2 with ⟨rfl, h0⟩ | ⟨g, cap, cur, rfl, _, _, hnc, _⟩
    · simp [Builtin.append_, run_underlying Tryz.underlying41, sizeOf, typeInfo, hi, Builtin.lenOf, Builtin.firstCells]
    · simp [Builtin.append_, run_underlying Tryz.underlying41, sizeOf, typeInfo, hi, Builtin.lenOf, Builtin.firstCells, hnc, storeCells]
  · obtain ⟨v', w', hrun, r1, r2, _, r4⟩ := run_append_own_at (P := Tryz.prog) w base 41 ty 63 i _ 3 40 Tryz.underlying41 hi hz h1 h2 rfl (by decide) v l0.length (hcells l0) hown ad n c (hcells l) (by rw [hcells_len, hr.1]) (fun j u hu => by
      obtain ⟨ad', e, _, h⟩ := hr.2 j u hu
      obtain rfl := Option.some.inj e
      exact h) (hcells_one l) (by simp only [maxLen]; omega) (by omega) hbase
    refine ⟨v', w', hrun, ?_, r2, r4⟩
    unfold Hw
    rw [hcells_append, List.length_append, hr.1]
    exact r1
section
variable {ops : Array Oper} {rest : List Oper} {o : Oper} {a : Act} {Q : Exit → Act → World → Prop}
theorem wpList_app_hg (w : World) (hgd : o.guard = none) (s x : Operand) (ho : o.op = .call { callee := .builtin .append, args := #[s, x], argTypes := #[41, 41] })
    (base : Nat) (v : Value) (l0 : List HdrV) (hs : a.eval s = v) (hown : Hw w base v l0) (A : Option Addr) (n c : Nat) (l : List HdrV) (hx : a.eval x = .slice A n c) (hr : Hr w A n l) (hb : l0.length + n ≤ 1000) (hbase : base ≤ w.heap.size)
    (h : ∀ v' w', Hw w' base v' (l0 ++ l) → w.grownBy w' v.ownBlock → (v'.ownBlock = v.ownBlock ∨ v'.ownBlock = some w.heap.size) → wpList Tryz.prog ops Q rest (a.put o.dst v') w') : wpList Tryz.prog ops Q (o :: rest) a w := by
  refine wpList_plain hgd fun K hK => ?_
  obtain ⟨v', w', hrun, r1, r2, r3⟩ := run_app_hg w o.type base v l0 hown A n c l hr hb hbase
  unfold Oper.wp execOp
  simp only [ho, resolve, invoke, builtin, Sem.run_bind, Sem.run_pure, Result.andThen_ok, List.map_toArray, List.map_cons, List.map_nil, hs, hx, hrun]
  exact hK _ _ (h v' w' r1 r2 r3)
end
theorem Hr.at_ {w : World} {A : Option Addr} {n k : Nat} {l : List HdrV} (h : Hr w A n l) (hk : k < n) : ∃ ad, A = some ad ∧ w.cell? (ad.add (k * 3)) = some (.string (l.getD k ⟨⟨#[]⟩, ⟨#[]⟩, false⟩).name) ∧ w.cell? ⟨(ad.add (k * 3)).block, (ad.add (k * 3)).off + 1, none⟩ = some (.string (l.getD k ⟨⟨#[]⟩, ⟨#[]⟩, false⟩).value) ∧
    w.cell? ⟨(ad.add (k * 3)).block, (ad.add (k * 3)).off + 2, none⟩ = some (.bool (l.getD k ⟨⟨#[]⟩, ⟨#[]⟩, false⟩).never) := by
  have hl := h.1
  have hc := hcells_at l k (by omega)
  have e : l.getD k ⟨⟨#[]⟩, ⟨#[]⟩, false⟩ = l[k]'(by omega) := by simp [List.getD, show k < l.length by omega]
  rw [e]
  obtain ⟨ad, e0, _, h0⟩ := h.2 _ _ hc.1
  obtain ⟨ad1, e1, _, h1⟩ := h.2 _ _ hc.2.1
  obtain ⟨ad2, e2, _, h2⟩ := h.2 _ _ hc.2.2
  obtain rfl := Option.some.inj (e0.symm.trans e1)
  obtain rfl := Option.some.inj (e0.symm.trans e2)
  rw [← add_two] at h1 h2
  exact ⟨ad, e0, h0, h1, h2⟩
theorem hw_put {W : World} {p : Addr} {v : Value} {B n c : Nat} {A : Option Addr} {l : List HdrV} (hp : p.block < B) (h : Hw W B (.slice A n c) l) : Hw (W.setCell p v) B (.slice A n c) l := h.grown (row := some p.block) (by
  refine ⟨rfl, rfl, rfl, by simp [World.setCell], fun i _ hne => Below.heap_setCell W p v i (fun e => hne (by rw [e]))⟩) (by
  rcases ho : (Value.slice A n c).ownBlock with _ | b
  · exact .inl rfl
  · exact .inr (fun e => by have := (h.lt b ho).1; injection e with e; omega))
end Go.Proofs.YtkpppjhbmnfmkaaGreatDoor.H6
end

section
namespace Go.Own.Rng
open Go Go.RowKit Go.Shelf

variable {P : Program}

/-- A loop's record. -/
def recOf (fn : FuncId) (tmps : Array Value) (ps : Array Tmp) (assign body : Code) (D : Nat) (st : LoopState) (pe : Option Code) : Loop :=
  { state := st, pending := pe, fn, tmps, params := ps, assign, body, defers := D }

/-- What is owed behind the iterator. -/
def Behind (P : Program) (n : Nat) (Q : Exit → Act → World → Prop) (a : Act) : Option Code → World → Prop
  | none, w => Q .normal a w
  | some c, w => c.wpIn Fence.wide n P Q a w

set_option maxHeartbeats 1000000 in
/-- The statement: the iterator is called with yield; the record tells how it was left. -/
theorem range_wide {n : Nat} {g : Operand} {ps : Array Tmp} {assign body : Code} {Q : Exit → Act → World → Prop} {a : Act} {w : World} {gf : Nat} {lb : Array Value}
    (hg : a.eval g = .func (.func gf) #[] lb) (eg : ∀ args w, (callFunc gf args).run P w = .ok (.enter gf args) w)
    (h : ∀ fn, CallsIn Fence.wide (n - 1) P gf (#[.func (.yield (w.heap.size + 1)) #[] #[]] ++ lb)
      ((w.alloc (.deferred (some []))).alloc (.loop (recOf fn a.tmps ps assign body w.heap.size .ready none)))
      fun e W => (∃ v, e = .returned v) ∧ ∃ st pe, st ≠ .busy ∧ W.heap[w.heap.size + 1]? = some (.loop (recOf fn a.tmps ps assign body w.heap.size st pe)) ∧
        Behind P n Q { a with defers := { target := .collected w.heap.size, args := #[] } :: a.defers } pe (W.putObj (w.heap.size + 1) (.loop (recOf fn a.tmps ps assign body w.heap.size .exhausted pe)))) :
    (Code.rangeFunc g ps assign body).wpIn Fence.wide n P Q a w := by
  refine wpIn_rangeFunc ?_
  intro fn _
  obtain ⟨W1, hW1⟩ : ∃ W1, (w.alloc (.deferred (some []))).alloc (.loop (recOf fn a.tmps ps assign body w.heap.size .ready none)) = W1 := ⟨_, rfl⟩
  have h1 := h fn
  rw [hW1] at h1
  refine ⟨w.heap.size + 1, [{ target := .collected w.heap.size, args := #[] }], W1, { target := .fn (.func gf) lb, args := #[.func (.yield (w.heap.size + 1)) #[] #[]] }, W1, gf,
    #[.func (.yield (w.heap.size + 1)) #[] #[]] ++ lb, W1, ?_, ?_, ?_, ?_, ?_, ?_⟩
  · rw [← hW1]; exact run_enterLoop_outer _ _ _ _ _
  · simp only [resolve, hg]
    simp [go_sem]
  · intro _ _; exact trivial
  · simp [invoke, go_sem, eg]
  · intro e; cases e
  · refine h1.mono ?_
    rintro e W ⟨⟨v, rfl⟩, st, pe, hst, hl, hb⟩
    refine ⟨pe, _, run_endLoop hl hst, ?_⟩
    cases pe with
    | none => exact hb
    | some c => exact hb

/-- How a round's body may be left. -/
def LeftBy (l : Nat) (rec : LoopState → Option Code → Loop) (R : Ending → World → Prop) : Exit → Act → World → Prop
  | .normal, _, w => w.heap[l]? = some (.loop (rec .busy none)) ∧ R (.returned (.bool true)) (w.putObj l (.loop (rec .ready none)))
  | .ret, _, w => w.heap[l]? = some (.loop (rec .busy none)) ∧ R (.returned (.bool false)) (w.putObj l (.loop (rec .done (some .ret))))
  | .exit id, _, w => w.heap[l]? = some (.loop (rec .busy none)) ∧ R (.returned (.bool false)) (w.putObj l (.loop (rec .done (some (.exit id)))))
  | .goto t, _, w => w.heap[l]? = some (.loop (rec .busy none)) ∧ R (.returned (.bool false)) (w.putObj l (.loop (rec .done (some (.goto t)))))
  | .panic _, _, _ => False
  | .outgrown, _, _ => False

/-- A call of yield is a round. -/
theorem yield_wide {m l D : Nat} {fn : FuncId} {tmps : Array Value} {ps : Array Tmp} {assign body : Code} {args : Array Value} {W : World} {R : Ending → World → Prop}
    (hl : W.heap[l]? = some (.loop (recOf fn tmps ps assign body D .ready none))) (hs : args.size = ps.size)
    (h : assign.wpIn (Fence.wide.inRound l) m P (Exit.then (fun a₁ w₁ => w₁.heap[l]? = some (.loop (recOf fn tmps ps assign body D .ready none)) ∧
        body.wpIn (Fence.wide.inRound l) m P (LeftBy l (recOf fn tmps ps assign body D) R) a₁ (w₁.putObj l (.loop (recOf fn tmps ps assign body D .busy none)))) (fun _ _ _ => False))
      { tmps := (ps.zip args).foldl (fun t (p, v) => t.setIfInBounds p v) tmps, defers := [] } W) :
    YieldAt Fence.wide m P l args W R := by
  refine ⟨fn, _, assign, body, run_yield hl hs, roundIn_of_wpIn trivial (wpIn_mono h ?_)⟩
  intro e a₁ w₁ hq
  cases e with
  | normal =>
    obtain ⟨hl1, hb⟩ := hq
    refine ⟨_, run_beginRound hl1 rfl, wpIn_mono hb ?_⟩
    intro e a₂ w₂ hq
    cases e with
    | normal => exact ⟨_, _, run_endRound none hq.1, hq.2⟩
    | ret => exact ⟨_, _, run_endRound (some .ret) hq.1, hq.2⟩
    | exit id => exact ⟨_, _, run_endRound (some (.exit id)) hq.1, hq.2⟩
    | goto t => exact ⟨_, _, run_endRound (some (.goto t)) hq.1, hq.2⟩
    | panic ch => exact hq.elim
    | outgrown => exact hq.elim
  | ret => exact hq.elim
  | exit id => exact hq.elim
  | goto t => exact hq.elim
  | panic ch => exact hq.elim
  | outgrown => exact hq.elim

/-- The statement, its record by a letter. -/
theorem range_rec {n : Nat} {g : Operand} {ps : Array Tmp} {assign body : Code} {Q : Exit → Act → World → Prop} {a : Act} {w : World} {gf : Nat} {lb : Array Value}
    (hg : a.eval g = .func (.func gf) #[] lb) (eg : ∀ args w, (callFunc gf args).run P w = .ok (.enter gf args) w)
    (h : ∀ fn (R : LoopState → Option Code → Loop), R = recOf fn a.tmps ps assign body w.heap.size → CallsIn Fence.wide (n - 1) P gf (#[.func (.yield (w.heap.size + 1)) #[] #[]] ++ lb)
      ((w.alloc (.deferred (some []))).alloc (.loop (R .ready none)))
      fun e W => (∃ v, e = .returned v) ∧ ∃ st pe, st ≠ .busy ∧ W.heap[w.heap.size + 1]? = some (.loop (R st pe)) ∧
        Behind P n Q { a with defers := { target := .collected w.heap.size, args := #[] } :: a.defers } pe (W.putObj (w.heap.size + 1) (.loop (R .exhausted pe)))) :
    (Code.rangeFunc g ps assign body).wpIn Fence.wide n P Q a w :=
  range_wide hg eg fun fn => h fn _ rfl
/-- A call of yield, the record by a letter. -/
theorem yield_rec {m l D : Nat} {fn : FuncId} {tmps : Array Value} {ps : Array Tmp} {assign body : Code} {args : Array Value} {W : World} {R : Ending → World → Prop} {C : LoopState → Option Code → Loop}
    (hC : C = recOf fn tmps ps assign body D) (hl : W.heap[l]? = some (.loop (C .ready none))) (hs : args.size = ps.size)
    (h : assign.wpIn (Fence.wide.inRound l) m P (Exit.then (fun a₁ w₁ => w₁.heap[l]? = some (.loop (C .ready none)) ∧
        body.wpIn (Fence.wide.inRound l) m P (LeftBy l C R) a₁ (w₁.putObj l (.loop (C .busy none)))) (fun _ _ _ => False))
      { tmps := (ps.zip args).foldl (fun t (p, v) => t.setIfInBounds p v) tmps, defers := [] } W) :
    YieldAt Fence.wide m P l args W R := by
  subst hC
  exact yield_wide hl hs h

/-- Where the loop's own two blocks stand, and all ahead of them is as it was. -/
structure InLoop (Z : World) (C : LoopState → Option Code → Loop) (st : LoopState) (pe : Option Code) (W : World) : Prop where
  below : Below Z.heap.size Z W
  mark : W.heap[Z.heap.size]? = some (.deferred (some []))
  entry : W.heap[Z.heap.size + 1]? = some (.loop (C st pe))
  size : Z.heap.size + 2 ≤ W.heap.size
theorem InLoop.start (Z : World) (C : LoopState → Option Code → Loop) : InLoop Z C .ready none ((Z.alloc (.deferred (some []))).alloc (.loop (C .ready none))) := by
  have h1 := heap_alloc_new Z (.deferred (some []))
  have h2 := heap_alloc_new (Z.alloc (.deferred (some []))) (.loop (C .ready none))
  have e : (Z.alloc (.deferred (some []))).heap.size = Z.heap.size + 1 := by simp
  rw [e] at h2
  refine ⟨((Below.refl _ _).alloc (Nat.le_refl _) _).alloc (by simp) _, ?_, h2, by simp⟩
  exact (Below.heap_alloc _ _ _ (by simp)).trans h1
theorem InLoop.step {Z W W' : World} {C : LoopState → Option Code → Loop} {st : LoopState} {pe : Option Code} {B : Nat} (h : InLoop Z C st pe W) (hb : Below B W W') (hB : Z.heap.size + 2 ≤ B) : InLoop Z C st pe W' :=
  ⟨h.below.trans (hb.mono (by omega)), (hb.block _ (by omega)).trans h.mark, (hb.block _ (by omega)).trans h.entry, Nat.le_trans h.size hb.size⟩
theorem InLoop.put {Z W : World} {C : LoopState → Option Code → Loop} {st : LoopState} {pe : Option Code} (h : InLoop Z C st pe W) (st' : LoopState) (pe' : Option Code) : InLoop Z C st' pe' (W.putObj (Z.heap.size + 1) (.loop (C st' pe'))) :=
  ⟨h.below.trans (belowK_b (w := Z) (Nat.le_refl _) W _ _ _ (by omega) h.entry rfl rfl), (World.putObj_heap_other (by omega)).trans h.mark, World.putObj_heap_same (by have := h.size; omega), by rw [World.putObj_size]; exact h.size⟩
end Go.Own.Rng
end

section
namespace Go.Own.Fn
open Go Go.RowKit Go.Own Go.Proofs
variable {σ X Y : Type}
/-- The state that a function turns: how it lies in memory (row: the one block that may change). -/
structure Stt (σ : Type) where
  row : Option Nat
  St : σ → World → Prop
/-- How what is asked and answered lies in memory. -/
structure Lvl (X Y : Type) where
  RX : World → Value → X → Prop
  RY : World → Value → Y → Prop
/-- All blocks but some are as they were. -/
structure Kx (ex : Nat → Prop) (w w' : World) : Prop where
  os : w'.os = w.os
  tape : w'.tape = w.tape
  output : w'.output = w.output
  size : w.heap.size ≤ w'.heap.size
  block : ∀ i, i < w.heap.size → ¬ ex i → w'.heap[i]? = w.heap[i]?
section
variable {ex ex' : Nat → Prop} {a b c w w' : World}
theorem Kx.refl (ex : Nat → Prop) (w : World) : Kx ex w w := ⟨rfl, rfl, rfl, Nat.le_refl _, fun _ _ _ => rfl⟩
theorem Kx.trans (h : Kx ex a b) (k : Kx ex b c) : Kx ex a c :=
  ⟨k.os.trans h.os, k.tape.trans h.tape, k.output.trans h.output, Nat.le_trans h.size k.size, fun i hi hn => (k.block i (Nat.lt_of_lt_of_le hi h.size) hn).trans (h.block i hi hn)⟩
theorem Kx.grown {row : Option Nat} (h : w.grownBy w' row) (hr : ∀ g, row = some g → ex g) : Kx ex w w' :=
  ⟨h.os, h.tape, h.output, h.size, fun i hi hn => h.block i hi (fun e => hn (hr i e.symm))⟩
theorem Kx.below (h : Below w.heap.size w w') : Kx ex w w' := ⟨h.os, h.tape, h.output, h.size, fun i hi _ => h.block i hi⟩
theorem Kx.more (h : Kx ex w w') (hx : ∀ i, i < w.heap.size → ex i → ex' i) : Kx ex' w w' := ⟨h.os, h.tape, h.output, h.size, fun i hi hn => h.block i hi fun he => hn (hx i hi he)⟩
theorem Kx.put {g : Nat} {t : TypeId} {cs : Array Value} (_hb : Blk w g t cs) (hg : ex g) (k : Nat) (v : Value) : Kx ex w (w.setCell ⟨g, k, none⟩ v) :=
  Kx.grown (grown_setCell (World.grownBy.refl w (some g)) k v) fun i e => by injection e with e; exact e ▸ hg
theorem Kx.putObj {g : Nat} (hg : ex g) (o : Obj) (hs : g < w.heap.size) : Kx ex w (w.putObj g o) :=
  ⟨rfl, rfl, rfl, by rw [World.putObj_size]; exact Nat.le_refl _, fun i _ hn => World.putObj_heap_other (by rintro rfl; exact hn hg)⟩
theorem Blk.kx {g : Nat} {t : TypeId} {cs : Array Value} (hb : Blk w g t cs) (h : Kx ex w w') (hg : ¬ ex g) : Blk w' g t cs := (h.block g hb.lt hg).trans hb
end
/-- v is the function F, from w0 on, whatever becomes of the blocks ex. -/
def Fnc (P : Program) (S : Stt σ) (L : Lvl X Y) (ex : Nat → Prop) (v : Value) (F : X → σ → Y × σ) (w0 : World) : Prop :=
  ∃ (K : Nat) (first cap : Array Value), v = .func (.func K) first cap ∧ Enters P K ∧ ∀ (w : World) (s : σ) (xv : Value) (x : X), Kx ex w0 w → S.St s w → L.RX w xv x →
    Calls P K (first.push xv ++ cap) w fun e w' => ∃ yv, e = .returned yv ∧ L.RY w' yv (F x s).1 ∧ S.St (F x s).2 w' ∧ w.grownBy w' S.row
/-- v goes around functions as A does, from w0 on. -/
def Arnd (P : Program) (S : Stt σ) (L L' : Lvl X Y) (ex : Nat → Prop) (v : Value) (A : (X → σ → Y × σ) → X → σ → Y × σ) (w0 : World) : Prop :=
  ∃ (K : Nat) (first cap : Array Value), v = .func (.func K) first cap ∧ Enters P K ∧ ∀ (w : World) (s : σ) (xv : Value) (x : X) (nv : Value) (F : X → σ → Y × σ) (exF : Nat → Prop), (∀ g, S.row = some g → exF g) → Kx ex w0 w → Fnc P S L' exF nv F w → S.St s w → L.RX w xv x →
    Calls P K (first ++ (#[xv, nv] ++ cap)) w fun e w' => ∃ yv, e = .returned yv ∧ L.RY w' yv (A F x s).1 ∧ S.St (A F x s).2 w' ∧ w.grownBy w' S.row
section
variable {P : Program} {S : Stt σ} {L L' : Lvl X Y} {ex ex' : Nat → Prop} {v : Value} {F : X → σ → Y × σ} {A : (X → σ → Y × σ) → X → σ → Y × σ} {w w' : World}
theorem Fnc.kx (h : Fnc P S L ex v F w) (hg : Kx ex w w') : Fnc P S L ex v F w' := by
  obtain ⟨K, first, cap, e, hE, hc⟩ := h
  exact ⟨K, first, cap, e, hE, fun w s xv x hw => hc w s xv x (hg.trans hw)⟩
theorem Arnd.kx (h : Arnd P S L L' ex v A w) (hg : Kx ex w w') : Arnd P S L L' ex v A w' := by
  obtain ⟨K, first, cap, e, hE, hc⟩ := h
  exact ⟨K, first, cap, e, hE, fun w s xv x nv F exF hr hw => hc w s xv x nv F exF hr (hg.trans hw)⟩
/-- More blocks are let be, that are not there yet; or fewer. -/
theorem Fnc.letbe (h : Fnc P S L ex v F w) (hx : ∀ i, i < w.heap.size → ex' i → ex i) : Fnc P S L ex' v F w := by
  obtain ⟨K, first, cap, e, hE, hc⟩ := h
  exact ⟨K, first, cap, e, hE, fun w s xv x hw => hc w s xv x (hw.more hx)⟩
theorem Arnd.letbe (h : Arnd P S L L' ex v A w) (hx : ∀ i, i < w.heap.size → ex' i → ex i) : Arnd P S L L' ex' v A w := by
  obtain ⟨K, first, cap, e, hE, hc⟩ := h
  exact ⟨K, first, cap, e, hE, fun w s xv x nv F exF hr hw hf => hc w s xv x nv F exF hr (hw.more hx) hf⟩
/-- Less is asked of it, more answers are let be. -/
theorem Fnc.lvl (h : Fnc P S L' ex v F w) (hx : ∀ w xv x, L.RX w xv x → L'.RX w xv x) (hy : ∀ w yv y, L'.RY w yv y → L.RY w yv y) : Fnc P S L ex v F w := by
  obtain ⟨K, first, cap, e, hE, hc⟩ := h
  refine ⟨K, first, cap, e, hE, fun w s xv x hw hs hr => (hc w s xv x hw hs (hx _ _ _ hr)).mono ?_⟩
  rintro e w1 ⟨yv, he, h1, h2, h3⟩
  exact ⟨yv, he, hy _ _ _ h1, h2, h3⟩
theorem Fnc.same {F' : X → σ → Y × σ} (h : Fnc P S L ex v F w) (hf : ∀ x s, F x s = F' x s) : Fnc P S L ex v F' w := by
  have : F = F' := by funext x s; exact hf x s
  exact this ▸ h
end
theorem grown_new {w w1 : World} {row : Option Nat} {g : Nat} (h : w.grownBy w1 row) (hg : w.heap.size ≤ g) (k : Nat) (v : Value) : w.grownBy (w1.setCell ⟨g, k, none⟩ v) row :=
  have h' := grown_setCell (World.grownBy.refl w1 (some g)) k v
  ⟨h'.os.trans h.os, h'.tape.trans h.tape, h'.output.trans h.output, Nat.le_trans h.size h'.size, fun i hi hn => (h'.block i (Nat.lt_of_lt_of_le hi h.size) (by intro e; injection e with e; omega)).trans (h.block i hi hn)⟩
/-- All blocks of some types stay as they are. -/
def Kt (ts : TypeId → Prop) (w w' : World) : Prop := ∀ i e cs, ts e → Blk w i e cs → Blk w' i e cs
theorem Kt.below {ts : TypeId → Prop} {w w' : World} (h : Below w.heap.size w w') : Kt ts w w' := fun _ _ _ _ hb => hb.below h hb.lt
theorem Kt.trans {ts : TypeId → Prop} {a b c : World} (h : Kt ts a b) (k : Kt ts b c) : Kt ts a c := fun i e cs he hb => k i e cs he (h i e cs he hb)
theorem Kt.put {ts : TypeId → Prop} {w : World} {g : Nat} {t : TypeId} {cs : Array Value} (hb : Blk w g t cs) (ht : ¬ ts t) (k : Nat) (v : Value) : Kt ts w (w.setCell ⟨g, k, none⟩ v) := fun i e cs' he hb' => by
  have hne : i ≠ g := by
    rintro rfl
    unfold Blk at hb hb'
    rw [hb] at hb'
    injection hb' with hb'
    injection hb' with _ ht'
    exact ht (ht' ▸ he)
  exact hb'.grown (grown_setCell (World.grownBy.refl w (some g)) k v) (by intro e; injection e with e; exact hne e)
/-- What is held of the state and of what is asked and answered stays where blocks of the types ts do. -/
structure Keepers (ts : TypeId → Prop) (S : Stt σ) (L : Lvl X Y) : Prop where
  st : ∀ {s w w'}, Kt ts w w' → S.St s w → S.St s w'
  rx : ∀ {xv x w w'}, Kt ts w w' → L.RX w xv x → L.RX w' xv x
  ry : ∀ {yv y w w'}, Kt ts w w' → L.RY w yv y → L.RY w' yv y
/-- What is asked is a call, what is answered an answer. -/
structure Shaped (L : Lvl X Y) : Prop where
  x : ∀ {w xv x}, L.RX w xv x → ∃ p A n c A2 n2 c2, xv = .agg #[.string p, .slice A n c, .slice A2 n2 c2]
  y : ∀ {w yv y}, L.RY w yv y → ∃ k t A n c A2 n2 c2, yv = .agg #[.int .i64 k, .string t, .slice A n c, .slice A2 n2 c2]
/-- Functions around one another. -/
def wrapS (As : List ((X → σ → Y × σ) → X → σ → Y × σ)) (F : X → σ → Y × σ) : X → σ → Y × σ := As.foldr (fun A G => A G) F
/-- What the cells of a slice of functions around functions are; the first stands at level k. -/
def IsArs (P : Program) (S : Stt σ) (L : Nat → Lvl X Y) (k : Nat) (ex : Nat → Prop) (w : World) (A : Option Addr) (n : Nat) (As : List ((X → σ → Y × σ) → X → σ → Y × σ)) : Prop :=
  As.length = n ∧ ∀ j B, As[j]? = some B → ∃ ad av, A = some ad ∧ ad.block < w.heap.size ∧ w.cell? (ad.add j) = some av ∧ Arnd P S (L (k + j)) (L (k + j + 1)) ex av B w
/-- What a call that makes functions out of new blocks lets be. -/
def exW (ex : Nat → Prop) (b : Nat) (i : Nat) : Prop := ex i ∨ (b ≤ i ∧ i < b + 4)
theorem exW_no {ex : Nat → Prop} {b B : Nat} (hex : ∀ g, ex g → g < b) (h : b + 4 ≤ B) : ¬ exW ex b B := by
  rintro (h1 | h1)
  · have := hex _ h1; omega
  · omega
/-- While functions are laid around a function. -/
structure WrJ (P : Program) (S : Stt σ) (Lv : Lvl X Y) (ex : Nat → Prop) (w : World) (L : LoopState → Option Code → Loop) (tf tl : TypeId) (sl : Value) (st : LoopState) (pe : Option Code) (G : X → σ → Y × σ) (W : World) : Prop where
  below : Below w.heap.size w W
  sl : Blk W (w.heap.size + 1) tl #[sl]
  mark : W.heap[w.heap.size + 2]? = some (.deferred (some []))
  entry : W.heap[w.heap.size + 3]? = some (.loop (L st pe))
  size : w.heap.size + 4 ≤ W.heap.size
  f : ∃ gv, Blk W w.heap.size tf #[gv] ∧ Fnc P S Lv (exW ex w.heap.size) gv G W
/-- In the round's body. -/
structure Bdy (ex : Nat → Prop) (w : World) (R : LoopState → Option Code → Loop) (tf tl ta : TypeId) (sl av gv : Value) (W W2 : World) : Prop where
  below : Below w.heap.size w W2
  sl : Blk W2 (w.heap.size + 1) tl #[sl]
  mark : W2.heap[w.heap.size + 2]? = some (.deferred (some []))
  busy : W2.heap[w.heap.size + 3]? = some (.loop (R .busy none))
  size : W2.heap.size = W.heap.size + 1
  old : w.heap.size + 4 ≤ W.heap.size
  bf : Blk W2 w.heap.size tf #[gv]
  ba : Blk W2 W.heap.size ta #[av]
  kx : Kx (exW ex w.heap.size) W W2
theorem bdy_start {P : Program} {S : Stt σ} {Lv : Lvl X Y} {ex : Nat → Prop} {w W : World} {R : LoopState → Option Code → Loop} {tf tl : TypeId} {sl gv : Value} {G : X → σ → Y × σ} (h : WrJ P S Lv ex w R tf tl sl .ready none G W) (hg : Blk W w.heap.size tf #[gv]) (ta : TypeId) (av : Value) :
    Bdy ex w R tf tl ta sl av gv W ((W.alloc (.cells #[av] ta)).putObj (w.heap.size + 2 + 1) (.loop (R .busy none))) := by
  have hs := h.size
  have hl : w.heap.size + 2 + 1 < (W.alloc (.cells #[av] ta)).heap.size := by simp; omega
  have oth : ∀ i, i ≠ w.heap.size + 2 + 1 → ((W.alloc (.cells #[av] ta)).putObj (w.heap.size + 2 + 1) (.loop (R .busy none))).heap[i]? = (W.alloc (.cells #[av] ta)).heap[i]? := fun i hi => World.putObj_heap_other (by omega)
  have old : ∀ i, i < W.heap.size → i ≠ w.heap.size + 2 + 1 → ((W.alloc (.cells #[av] ta)).putObj (w.heap.size + 2 + 1) (.loop (R .busy none))).heap[i]? = W.heap[i]? := fun i hi hn => (oth i hn).trans (Below.heap_alloc W _ i hi)
  refine ⟨h.below.trans (((Below.refl _ _).alloc (by omega) _).trans (belowK_b (w := w) (Nat.le_refl _) _ _ _ _ (by omega) ((Below.heap_alloc W _ _ (by omega)).trans h.entry) rfl rfl)), ?_, ?_, World.putObj_heap_same hl, ?_, hs, ?_, ?_, ?_⟩
  · exact (old _ (by omega) (by omega)).trans h.sl
  · exact (old _ (by omega) (by omega)).trans h.mark
  · rw [World.putObj_size]; simp
  · exact (old _ (by omega) (by omega)).trans hg
  · exact (oth _ (by omega)).trans (Blk.new W ta #[av])
  · exact ⟨rfl, rfl, rfl, by rw [World.putObj_size]; simp, fun i hi hn => old i hi (by rintro rfl; exact hn (.inr (by omega)))⟩
/-- Behind the round's body: what was laid around stands. -/
theorem bdy_end {P : Program} {S : Stt σ} {L' : Lvl X Y} {ex : Nat → Prop} {w W W2 : World} {R : LoopState → Option Code → Loop} {tf tl ta : TypeId} {sl av gv nv : Value} {G : X → σ → Y × σ} (hex : ∀ g, ex g → g < w.heap.size)
    (h : Bdy ex w R tf tl ta sl av gv W W2)
    (hf : ∀ w0, Kx (exW ex w.heap.size) W w0 → Kx ex w w0 → Blk w0 W.heap.size ta #[av] → Blk w0 (W.heap.size + 1) tf #[gv] → Fnc P S L' (exW ex w.heap.size) nv G w0) :
    ((W2.alloc (.cells #[gv] tf)).setCell ⟨w.heap.size, 0, none⟩ nv).heap[w.heap.size + 2 + 1]? = some (.loop (R .busy none)) ∧
    WrJ P S L' ex w R tf tl sl .ready none G (((W2.alloc (.cells #[gv] tf)).setCell ⟨w.heap.size, 0, none⟩ nv).putObj (w.heap.size + 2 + 1) (.loop (R .ready none))) := by
  have hs := h.size
  have ho := h.old
  have e1 : ∀ i, i < W2.heap.size → i ≠ w.heap.size → ((W2.alloc (.cells #[gv] tf)).setCell ⟨w.heap.size, 0, none⟩ nv).heap[i]? = W2.heap[i]? := fun i hi hn => (Below.heap_setCell _ _ _ _ hn).trans (Below.heap_alloc W2 _ i hi)
  have bz : ((W2.alloc (.cells #[gv] tf)).setCell ⟨w.heap.size, 0, none⟩ nv).heap.size = W2.heap.size + 1 := by simp
  have e2 : ∀ i, i ≠ w.heap.size + 3 → (((W2.alloc (.cells #[gv] tf)).setCell ⟨w.heap.size, 0, none⟩ nv).putObj (w.heap.size + 2 + 1) (.loop (R .ready none))).heap[i]? = ((W2.alloc (.cells #[gv] tf)).setCell ⟨w.heap.size, 0, none⟩ nv).heap[i]? := fun i hi => World.putObj_heap_other (by omega)
  have b1 : ((W2.alloc (.cells #[gv] tf)).setCell ⟨w.heap.size, 0, none⟩ nv).heap[w.heap.size + 2 + 1]? = some (.loop (R .busy none)) := (e1 _ (by omega) (by omega)).trans h.busy
  have bn : Blk ((W2.alloc (.cells #[gv] tf)).setCell ⟨w.heap.size, 0, none⟩ nv) (W.heap.size + 1) tf #[gv] := by
    have := Blk.new W2 tf #[gv]
    rw [hs] at this
    exact this.far (by simp; omega) nv
  have bl : Below w.heap.size w (((W2.alloc (.cells #[gv] tf)).setCell ⟨w.heap.size, 0, none⟩ nv).putObj (w.heap.size + 2 + 1) (.loop (R .ready none))) :=
    ((h.below.alloc (by omega) _).setCell (by simp) _).trans (belowK_b (w := w) (Nat.le_refl _) _ _ _ _ (by omega) b1 rfl rfl)
  have kx : Kx (exW ex w.heap.size) W (((W2.alloc (.cells #[gv] tf)).setCell ⟨w.heap.size, 0, none⟩ nv).putObj (w.heap.size + 2 + 1) (.loop (R .ready none))) :=
    h.kx.trans ⟨rfl, rfl, rfl, by rw [World.putObj_size, bz]; omega, fun i hi hn => (e2 i (by rintro rfl; exact hn (.inr (by omega)))).trans (e1 i hi (by rintro rfl; exact hn (.inr (by omega))))⟩
  refine ⟨b1, bl, ?_, ?_, World.putObj_heap_same (by rw [bz]; omega), by rw [World.putObj_size, bz]; omega, nv, ?_, hf _ kx (Kx.below bl) ?_ ?_⟩
  · exact (e2 _ (by omega)).trans ((e1 _ (by omega) (by omega)).trans h.sl)
  · exact (e2 _ (by omega)).trans ((e1 _ (by omega) (by omega)).trans h.mark)
  · exact (e2 _ (by omega)).trans ((h.bf.alloc _).put 0 nv)
  · exact (e2 _ (by omega)).trans ((e1 _ (by omega) (by omega)).trans h.ba)
  · exact (e2 _ (by omega)).trans bn
/-- v is a function of numbers that turns no state. -/
def Pur (P : Program) (ex : Nat → Prop) (v : Value) (f : Int → Value) (w0 : World) : Prop :=
  ∃ (K : Nat) (cap : Array Value), v = .func (.func K) #[] cap ∧ Enters P K ∧ ∀ (w : World) (x : Int), Kx ex w0 w →
    Calls P K (#[.int .i64 x] ++ cap) w fun e w' => e = .returned (f x) ∧ Below w.heap.size w w'
theorem Pur.kx {P : Program} {ex : Nat → Prop} {v : Value} {f : Int → Value} {w w' : World} (h : Pur P ex v f w) (hg : Kx ex w w') : Pur P ex v f w' := by
  obtain ⟨K, cap, e, hE, hc⟩ := h
  exact ⟨K, cap, e, hE, fun w x hw => hc w x (hg.trans hw)⟩
/-- Numbers. -/
def intL : Lvl Int Int := ⟨fun _ v x => v = .int .i64 x, fun _ v x => v = .int .i64 x⟩
/-- The state stays where what is there stays. -/
def Steady (S : Stt σ) : Prop := ∀ s w w', Below w.heap.size w w' → S.St s w → S.St s w'
/-- Asked again and again. -/
def timesF (again : Int → Bool) (F : Int → σ → Int × σ) (x : Int) : Nat → Int × σ → Int × σ
  | 0, r => r
  | k + 1, r => if again r.1 then timesF again F x k (F x r.2) else r
theorem timesF_stop (f : Int → Bool) (F : Int → σ → Int × σ) (x : Int) (k : Nat) (r : Int × σ) (h : f r.1 = false) : timesF f F x k r = r := by
  cases k with
  | zero => rfl
  | succ k => simp [timesF, h]
theorem timesF_go (f : Int → Bool) (F : Int → σ → Int × σ) (x : Int) {k M : Nat} (hk : k < M) (r : Int × σ) (h : f r.1 = true) : timesF f F x (M - (k + 1)) (F x r.2) = timesF f F x (M - k) r := by
  obtain ⟨d, rfl⟩ : ∃ d, M = k + 1 + d := ⟨M - (k + 1), by omega⟩
  rw [show k + 1 + d - (k + 1) = d by omega, show k + 1 + d - k = d + 1 by omega]
  simp [timesF, h]
end Go.Own.Fn
end

section
namespace Go.Own.Hd
open Go Go.WideShapes Go.WideElems
variable {σ : Type}
/-- How a rule reads. -/
def okR (v : Value) : Bool := match v with
  | .agg cs => match cs.toList with
    | [.bool _, _] => true
    | _ => false
  | _ => false
def R6 (v : Value) : Option (DataW Value × List MemPlace) := if okR v then some (.held v, []) else none
theorem R6_mk (b : Bool) (f : Value) : R6 (.agg #[.bool b, f]) = some (.held (.agg #[.bool b, f]), []) := rfl
theorem R6_inv {v : Value} {y : DataW Value × List MemPlace} (h : R6 v = some y) : ∃ b f, v = .agg #[.bool b, f] ∧ y = (.held v, []) := by
  unfold R6 at h
  split at h
  · rename_i ho
    unfold okR at ho
    split at ho
    · rename_i cs
      split at ho
      · rename_i b f hcs
        refine ⟨b, f, ?_, by simpa using h.symm⟩
        obtain ⟨l⟩ := cs
        simp only at hcs
        rw [hcs]
      · cases ho
    · cases ho
  · cases h
def lt (nm : List UInt8) : Lit := .string nm
theorem keyLit (nm : List UInt8) : WideAt.IsKeyLit (lt nm) := by
  simp [lt, WideAt.IsKeyLit]
theorem lt_ne {a b : List UInt8} (h : a ≠ b) : lt a ≠ lt b := fun e => h (by injection e)
/-- A map's datum is the rules. -/
def RD (D : DataW Value) (rs : List (RuleF σ × Value)) : Prop :=
  Maps.IsMap D ∧ ∀ nm, (rs.find? (fun r => r.1.name == nm) = none → Maps.has D (lt nm) = false) ∧ ∀ r, rs.find? (fun r => r.1.name == nm) = some r → Maps.has D (lt nm) = true ∧ ∀ z, D.atKey (lt nm) z = .held (.agg #[.bool r.1.must, r.2])
theorem RD_nil : RD (.map []) ([] : List (RuleF σ × Value)) := ⟨Maps.isMap_empty, fun nm => ⟨fun _ => rfl, fun r h => by cases h⟩⟩
theorem RD_put {D : DataW Value} {rs : List (RuleF σ × Value)} (h : RD D rs) (r : RuleF σ × Value) (hn : rs.find? (fun x => x.1.name == r.1.name) = none) : RD (D.put (lt r.1.name) (.held (.agg #[.bool r.1.must, r.2]))) (rs ++ [r]) := by
  refine ⟨h.1.put _ _, fun nm => ?_⟩
  by_cases e : r.1.name = nm
  · subst e
    rw [List.find?_append, hn]
    refine ⟨fun hx => by simp at hx, fun r' hr' => ?_⟩
    simp at hr'
    subst hr'
    exact ⟨Maps.has_put_same h.1 (keyLit _) _, fun z => Maps.atKey_put_same h.1 (keyLit _) _ _⟩
  · have e2 : [r].find? (fun x => x.1.name == nm) = none := by simp [e]
    rw [List.find?_append, e2, Option.or_none]
    rw [Maps.has_put_other (lt_ne (Ne.symm e))]
    refine ⟨(h.2 nm).1, fun r' hr' => ⟨((h.2 nm).2 r' hr').1, fun z => ?_⟩⟩
    rw [Maps.atKey_put_other (lt_ne (Ne.symm e))]
    exact ((h.2 nm).2 r' hr').2 z
/-- A map's datum is the names that were met. -/
def MD (D : DataW Value) (met : List (List UInt8)) : Prop := Maps.IsMap D ∧ ∀ nm, D.atKey (lt nm) (.lit (.bool false)) = .lit (.bool (met.contains nm))
theorem MD_nil : MD (.map []) [] := ⟨Maps.isMap_empty, fun _ => rfl⟩
theorem MD_put {D : DataW Value} {met : List (List UInt8)} (h : MD D met) (a : List UInt8) : MD (D.put (lt a) (.lit (.bool true))) (met ++ [a]) := by
  refine ⟨h.1.put _ _, fun nm => ?_⟩
  by_cases e : nm = a
  · subst e
    rw [Maps.atKey_put_same h.1 (keyLit _)]
    simp
  · rw [Maps.atKey_put_other (lt_ne e), h.2 nm]
    simp [e]
end Go.Own.Hd
namespace Go.Proofs.YtkpppjhbmnfmkaaGreatDoor.H6
open Go.RowKit Go.Own Go.Own.Hd Go.WideShapes
variable {σ : Type}
theorem key_str (s : ByteArray) (h : s.size ≤ maxLen) : keyOf Tryz.prog 9 (.string s) = some (lt s.data.toList) := by
  simp [keyOf, Tryz.underlying9, mapKey, h, lt]
theorem keyed_str : Maps.Keyed Tryz.prog 9 := Maps.string_keyed Tryz.underlying9
theorem zero_rule (w : World) : (zeroValue 170).run Tryz.prog w = .ok (.agg #[.bool false, .nilFunc]) w := by kernel_rfl
theorem zero_bool (w : World) : (zeroValue 4).run Tryz.prog w = .ok (.bool false) w := by kernel_rfl
/-- The block is the map of the rules. -/
def RM (w : World) (b n : Nat) (rs : List (RuleF σ × Value)) : Prop := ∃ D, w.ownsMap Tryz.prog 9 R6 b n D ∧ RD D rs
/-- The block is the map of the names that were met. -/
def MM (w : World) (b n : Nat) (met : List (List UInt8)) : Prop := ∃ D, w.ownsMap Tryz.prog 9 (plainElem Tryz.prog 4) b n D ∧ MD D met
theorem RM.kept {w w' : World} {b n : Nat} {rs : List (RuleF σ × Value)} {row : Option Nat} (h : RM w b n rs) (hg : w.grownBy w' row) (hne : some b ≠ row) : RM w' b n rs := by
  obtain ⟨D, h1, h3⟩ := h
  exact ⟨D, h1.kept hg hne, h3⟩
theorem MM.kept {w w' : World} {b n : Nat} {met : List (List UInt8)} {row : Option Nat} (h : MM w b n met) (hg : w.grownBy w' row) (hne : some b ≠ row) : MM w' b n met := by
  obtain ⟨D, h1, h3⟩ := h
  exact ⟨D, h1.kept hg hne, h3⟩
theorem MM.lt {w : World} {b n : Nat} {met : List (List UInt8)} (h : MM w b n met) : b < w.heap.size := by
  obtain ⟨D, h1, _⟩ := h
  exact h1.lt
theorem RM.lt {w : World} {b n : Nat} {rs : List (RuleF σ × Value)} (h : RM w b n rs) : b < w.heap.size := by
  obtain ⟨D, h1, _⟩ := h
  exact h1.lt
set_option maxRecDepth 100000 in
theorem run_rule {w : World} {b n : Nat} {rs : List (RuleF σ × Value)} (h : RM w b n rs) (s : ByteArray) (hs : s.size ≤ maxLen) :
    ∃ m fv, (Instr.lookup 172 (.map (some b)) (.string s) true).run Tryz.prog w = .ok (.tuple #[.agg #[.bool m, fv], .bool (rs.find? (fun r => r.1.name == s.data.toList)).isSome]) w ∧ (∀ r, rs.find? (fun r => r.1.name == s.data.toList) = some r → m = r.1.must ∧ fv = r.2) ∧ (rs.find? (fun r => r.1.name == s.data.toList) = none → m = false ∧ fv = .nilFunc) := by
  obtain ⟨D, h1, h3⟩ := h
  obtain ⟨v, ps, hrun, hv⟩ := h1.look_ok keyed_str Tryz.underlying172 (zero_rule w) (R6_mk false .nilFunc) (key_str s hs)
  obtain ⟨m, fv, rfl, hy⟩ := R6_inv hv
  refine ⟨m, fv, ?_, fun r hr => ?_, fun hn => ?_⟩
  · rw [hrun]
    have e : Maps.has D (lt s.data.toList) = (rs.find? (fun r => r.1.name == s.data.toList)).isSome := by
      cases hf : rs.find? (fun r => r.1.name == s.data.toList) with
      | none => rw [(h3.2 _).1 hf]; rfl
      | some r => rw [((h3.2 _).2 r hf).1]; rfl
    rw [e]
  · rw [((h3.2 _).2 r hr).2] at hy
    simp only [Prod.mk.injEq, DataW.held.injEq, Value.agg.injEq] at hy
    have := hy.1
    simp at this
    exact ⟨this.1.symm, this.2.symm⟩
  · rw [Maps.atKey_of_not_has ((h3.2 _).1 hn)] at hy
    simp only [Prod.mk.injEq, DataW.held.injEq, Value.agg.injEq] at hy
    have := hy.1
    simp at this
    exact ⟨this.1, this.2.symm⟩
set_option maxRecDepth 100000 in
theorem run_met {w : World} {b n : Nat} {met : List (List UInt8)} (h : MM w b n met) (s : ByteArray) (hs : s.size ≤ maxLen) :
    (Instr.lookup 211 (.map (some b)) (.string s) false).run Tryz.prog w = .ok (.bool (met.contains s.data.toList)) w := by
  obtain ⟨D, h1, h3⟩ := h
  obtain ⟨v, ps, hrun, hv⟩ := h1.lookup keyed_str Tryz.underlying211 (zero_bool w) (plainElem_bool Tryz.underlying4 false) (key_str s hs)
  rw [h3.2] at hv
  rw [hrun]
  have : v = .bool (met.contains s.data.toList) := by
    unfold plainElem at hv
    rw [Tryz.underlying4] at hv
    cases v <;> simp at hv
    rw [hv.1]; simp
  rw [this]
section
variable {ops : Array Oper} {rest : List Oper} {o : Oper} {a : Act} {Q : Exit → Act → World → Prop}
set_option maxRecDepth 100000 in
/-- A rule is laid into the map. -/
theorem wpList_lay_rule (w : World) (hg : o.guard = none) (m x v : Operand) (hop : o.op = Op.insert 172 m x v) (b n : Nat) (rs : List (RuleF σ × Value)) (hm : a.eval m = .map (some b)) (h : RM w b n rs) (hk9 : n < 9)
    (r : RuleF σ × Value) (s : ByteArray) (hsz : s.size ≤ maxLen) (hs : r.1.name = s.data.toList) (hx : a.eval x = .string s) (hv : a.eval v = .agg #[.bool r.1.must, r.2]) (hn : rs.find? (fun q => q.1.name == r.1.name) = none)
    (hK : ∀ w', RM w' b (n + 1) (rs ++ [r]) → w.grownBy w' (some b) → wpList Tryz.prog ops Q rest (a.put o.dst undef) w') : wpList Tryz.prog ops Q (o :: rest) a w := by
  refine wpList_plain hg fun K' hK' => ?_
  obtain ⟨D, h1, h3⟩ := h
  obtain ⟨w', hrun, r1, r2⟩ := h1.update keyed_str Tryz.underlying172 (by simp only [maxLen]; omega) (key_str s hsz) (R6_mk r.1.must r.2)
  unfold Oper.wp
  simp [execOp, hop, hm, hx, hv, hrun, Result.andThen]
  refine hK' _ _ (hK w' ⟨_, r1, ?_⟩ r2)
  rw [← hs]
  exact RD_put h3 r hn
set_option maxRecDepth 100000 in
/-- A name is laid into the map of those that were met. -/
theorem wpList_lay_met (w : World) (hg : o.guard = none) (m x v : Operand) (hop : o.op = Op.mapUpdate 211 m x v) (b n : Nat) (met : List (List UInt8)) (hm : a.eval m = .map (some b)) (h : MM w b n met) (hk9 : n < 1000000)
    (s : ByteArray) (hsz : s.size ≤ maxLen) (hx : a.eval x = .string s) (hv : a.eval v = .bool true)
    (hK : ∀ w', MM w' b (n + 1) (met ++ [s.data.toList]) → w.grownBy w' (some b) → wpList Tryz.prog ops Q rest (a.put o.dst undef) w') : wpList Tryz.prog ops Q (o :: rest) a w := by
  refine wpList_plain hg fun K' hK' => ?_
  obtain ⟨D, h1, h3⟩ := h
  obtain ⟨w', hrun, r1, r2⟩ := h1.update keyed_str Tryz.underlying211 (by simp only [maxLen]; omega) (key_str s hsz) (plainElem_bool Tryz.underlying4 true)
  unfold Oper.wp
  simp [execOp, hop, hm, hx, hv, hrun, Result.andThen]
  exact hK' _ _ (hK w' ⟨_, r1, MD_put h3 _⟩ r2)
end
end Go.Proofs.YtkpppjhbmnfmkaaGreatDoor.H6
end

section
namespace Go.Own.Rn
open Go
theorem get_getD (s : ByteArray) (j : Nat) : s.get! j = s.data.toList.getD j 0 := by
  show s.data.get!Internal j = _
  simp only [Array.get!Internal_eq_getElem!, getElem!_def, List.getD, Array.getElem?_toList]
  cases s.data[j]? <;> rfl
/-- What is read at a place. -/
theorem decode_any (s : ByteArray) (i : Nat) (hi : i < s.size) :
    ((s.data.toList.getD i 0).toNat < 128 ∧ Utf8.decode s i = ((s.data.toList.getD i 0).toNat, 1)) ∨
    (128 ≤ (Utf8.decode s i).1 ∧ (Utf8.decode s i).1 ≤ 1114111 ∧ 1 ≤ (Utf8.decode s i).2 ∧ i + (Utf8.decode s i).2 ≤ s.size ∧ ∀ j, j < (Utf8.decode s i).2 → 128 ≤ (s.data.toList.getD (i + j) 0).toNat) := by
  have hb : ∀ k, (s.get! (i + k)).toNat < 256 := fun k => (s.get! (i + k)).toNat_lt
  have h0 := hb 0; have h1 := hb 1; have h2 := hb 2; have h3 := hb 3
  by_cases hlt : (s.get! (i + 0)).toNat < 128
  · left
    rw [← get_getD]
    refine ⟨hlt, ?_⟩
    simp only [Utf8.decode]
    rw [if_pos hlt]
    rfl
  · right
    have hb0 : 128 ≤ (s.data.toList.getD (i + 0) 0).toNat := by rw [← get_getD]; omega
    have one : ∀ j, j < 1 → 128 ≤ (s.data.toList.getD (i + j) 0).toNat := fun j hj => by
      obtain rfl : j = 0 := by omega
      exact hb0
    have err : (128 ≤ Utf8.runeError ∧ Utf8.runeError ≤ 1114111 ∧ 1 ≤ 1 ∧ i + 1 ≤ s.size ∧ ∀ j, j < 1 → 128 ≤ (s.data.toList.getD (i + j) 0).toNat) := ⟨by decide, by decide, Nat.le_refl _, hi, one⟩
    have big : ∀ k, (s.get! (i + k)).toNat / 64 = 2 → 128 ≤ (s.data.toList.getD (i + k) 0).toNat := fun k hk => by rw [← get_getD]; omega
    simp only [Utf8.decode]
    rw [if_neg hlt]
    split
    · rename_i hc
      simp only [Bool.and_eq_true, decide_eq_true_eq, beq_iff_eq] at hc
      split
      · refine ⟨by omega, by omega, by omega, by omega, fun j hj => ?_⟩
        have : j = 0 ∨ j = 1 := by omega
        rcases this with rfl | rfl
        · exact hb0
        · exact big 1 hc.2.2
      · exact err
    · split
      · rename_i hc
        simp only [Bool.and_eq_true, decide_eq_true_eq, beq_iff_eq] at hc
        split
        · rename_i hv
          simp only [Bool.and_eq_true, decide_eq_true_eq] at hv
          refine ⟨by omega, by omega, by omega, by omega, fun j hj => ?_⟩
          have : j = 0 ∨ j = 1 ∨ j = 2 := by omega
          rcases this with rfl | rfl | rfl
          · exact hb0
          · exact big 1 hc.1.2.2
          · exact big 2 hc.2.2
        · exact err
      · split
        · rename_i hc
          simp only [Bool.and_eq_true, decide_eq_true_eq, beq_iff_eq] at hc
          split
          · rename_i hv
            simp only [Bool.and_eq_true, decide_eq_true_eq, Utf8.valid, Bool.or_eq_true] at hv
            refine ⟨by omega, by omega, by omega, by omega, fun j hj => ?_⟩
            have : j = 0 ∨ j = 1 ∨ j = 2 ∨ j = 3 := by omega
            rcases this with rfl | rfl | rfl | rfl
            · exact hb0
            · exact big 1 hc.1.1.2.2
            · exact big 2 hc.1.2.2
            · exact big 3 hc.2.2
          · exact err
        · exact err
/-- A rune beyond the plain ones is written with two to four bytes, the last of them beyond the plain ones. -/
theorem encode_big (r : Int) (h : 128 ≤ r) : 2 ≤ (Utf8.encode r).size ∧ (Utf8.encode r).size ≤ 4 ∧ 128 ≤ ((Utf8.encode r).data.toList.getD ((Utf8.encode r).size - 1) 0).toNat := by
  unfold Utf8.encode
  simp only
  generalize hc : (if Utf8.valid r = true then r.toNat else Utf8.runeError) = c
  have h1 : 128 ≤ c := by
    rw [← hc]
    split
    · omega
    · decide
  have h2 : c ≤ 1114111 := by
    rw [← hc]
    split
    · rename_i hv
      simp only [Utf8.valid, Bool.or_eq_true, Bool.and_eq_true, decide_eq_true_eq] at hv
      omega
    · decide
  rw [if_neg (show ¬ c < 0x80 by omega)]
  have m : ∀ x, x < 64 → (UInt8.ofNat (128 + x)).toNat = 128 + x := fun x hx => by
    rw [UInt8.toNat_ofNat_of_lt' (show 128 + x < UInt8.size by have : UInt8.size = 256 := rfl; omega)]
  have hm := m (c % 64) (by omega)
  split
  · refine ⟨by simp [ByteArray.size], by simp [ByteArray.size], ?_⟩
    show 128 ≤ (UInt8.ofNat (128 + c % 64)).toNat
    omega
  · split
    · refine ⟨by simp [ByteArray.size], by simp [ByteArray.size], ?_⟩
      show 128 ≤ (UInt8.ofNat (128 + c % 64)).toNat
      omega
    · refine ⟨by simp [ByteArray.size], by simp [ByteArray.size], ?_⟩
      show 128 ≤ (UInt8.ofNat (128 + c % 64)).toNat
      omega
def crl : List UInt8 := [0, 13, 10]
theorem crl_big (c : UInt8) (h : 128 ≤ c.toNat) : crl.contains c = false := by
  rw [Bool.eq_false_iff]
  intro hc
  simp [crl] at hc
  rcases hc with rfl | rfl | rfl <;> exact absurd h (by decide)
theorem noAny_more {s : List UInt8} {i : Nat} (h : Lib.NoAny s crl i) : ∀ k, (∀ j, j < k → i + j < s.length → 128 ≤ (s.getD (i + j) 0).toNat) → Lib.NoAny s crl (i + k)
  | 0, _ => h
  | k + 1, hk => by
    have ih := noAny_more h k fun j hj => hk j (by omega)
    intro j b hj hb
    rcases Nat.lt_or_ge j (i + k) with hlt | hge
    · exact ih j b hlt hb
    · obtain rfl : j = i + k := by omega
      have hl := (List.getElem?_eq_some_iff.1 hb).1
      have := hk k (by omega) hl
      rw [List.getD, hb] at this
      exact crl_big b this
end Go.Own.Rn
end

section
namespace Go.Proofs.YtkpppjhbmnfmkaaGreatDoor.H6
open Go.RowKit Go.Own Go.Own.Hd Go.Own.Rn
def crlS : ByteArray := ⟨#[0, 13, 10]⟩
theorem below_range (w : World) (s : ByteArray) : Below w.heap.size w (w.iter s 0) := (Below.refl _ _).alloc (Nat.le_refl _) _
set_option maxRecDepth 100000 in
theorem rune_err (w : World) : Calls Tryz.prog 227 #[.string crlS, .int .i32 65533] w fun e w' => e = .returned (.int .i64 (-1)) ∧ Below w.heap.size w w' := by
  have n0 : ∀ ty (W : World), W.heap[w.heap.size]? = some (.stringIter crlS 0) → (Instr.next (.pointer (some ⟨w.heap.size, 0, none⟩)) true ty).run Tryz.prog W = .ok (.tuple #[.bool true, .int .i64 0, .int .i32 0]) (W.iterAt w.heap.size crlS 1) := fun ty W hW => Lib.run_next_any_at W w.heap.size crlS 0 ty hW (by decide)
  have n1 : ∀ ty (W : World), W.heap[w.heap.size]? = some (.stringIter crlS 1) → (Instr.next (.pointer (some ⟨w.heap.size, 0, none⟩)) true ty).run Tryz.prog W = .ok (.tuple #[.bool true, .int .i64 1, .int .i32 13]) (W.iterAt w.heap.size crlS 2) := fun ty W hW => Lib.run_next_any_at W w.heap.size crlS 1 ty hW (by decide)
  have n2 : ∀ ty (W : World), W.heap[w.heap.size]? = some (.stringIter crlS 2) → (Instr.next (.pointer (some ⟨w.heap.size, 0, none⟩)) true ty).run Tryz.prog W = .ok (.tuple #[.bool true, .int .i64 2, .int .i32 10]) (W.iterAt w.heap.size crlS 3) := fun ty W hW => Lib.run_next_any_at W w.heap.size crlS 2 ty hW (by decide)
  have n3 : ∀ ty (W : World), W.heap[w.heap.size]? = some (.stringIter crlS 3) → (Instr.next (.pointer (some ⟨w.heap.size, 0, none⟩)) true ty).run Tryz.prog W = .ok (.tuple #[.bool false]) W := fun ty W hW => Lib.run_next_end_at W w.heap.size crlS 3 ty hW (by decide)
  have HN := Lib.hid (And.intro n0 (And.intro n1 (And.intro n2 n3)))
  clear n0 n1 n2 n3
  obtain ⟨S, hS⟩ : ∃ S, crlS = S := ⟨_, rfl⟩
  rw [hS] at HN ⊢
  clear hS
  go_enter Tryz.func227, Tryz.ntmps227
  go_wp2
  go_loopg [5, 6] 4 (fun g _ _ wr => ∃ k : Nat, k + g = 4 ∧ 1 ≤ g ∧ Hid (wr.heap[w.heap.size]? = some (.stringIter S k) ∧ Below w.heap.size w wr))
  case atStart => exact ⟨0, rfl, by decide, Lib.hid ⟨World.iter_heap _ _ _, below_range _ _⟩⟩
  case round =>
    obtain ⟨k, hk, h1, hh⟩ := hrel
    have hk4 : k = 0 ∨ k = 1 ∨ k = 2 ∨ k = 3 := by omega
    clear h1
    rcases hk4 with rfl | rfl | rfl | rfl
    · have hn := fun ty => HN.out.1 ty wr hh.out.1
      have HI := Lib.hid (And.intro (Lib.iterAt_heap wr w.heap.size S 0 1 hh.out.1) (Lib.below_iterAt hh.out.2 (Nat.le_refl _) S 1))
      go_wp2
      go_roundg 3
      case measure => omega
      case rel => exact ⟨1, rfl, by decide, HI⟩
    · have hn := fun ty => HN.out.2.1 ty wr hh.out.1
      have HI := Lib.hid (And.intro (Lib.iterAt_heap wr w.heap.size S 1 2 hh.out.1) (Lib.below_iterAt hh.out.2 (Nat.le_refl _) S 2))
      go_wp2
      go_roundg 2
      case measure => omega
      case rel => exact ⟨2, rfl, by decide, HI⟩
    · have hn := fun ty => HN.out.2.2.1 ty wr hh.out.1
      have HI := Lib.hid (And.intro (Lib.iterAt_heap wr w.heap.size S 2 3 hh.out.1) (Lib.below_iterAt hh.out.2 (Nat.le_refl _) S 3))
      go_wp2
      go_roundg 1
      case measure => omega
      case rel => exact ⟨3, rfl, by decide, HI⟩
    · have hn := fun ty => HN.out.2.2.2 ty wr hh.out.1
      go_wp2
      go_ret
      exact ⟨rfl, hh.out.2⟩
theorem idx_getD (s : ByteArray) (k : Nat) (i : Int) (hi : i = (k : Int)) (hk : k < s.size) (W : World) :
    (Instr.index 9 (.string s) (.int .i64 i)).run Tryz.prog W = .ok (.int .u8 ((s.data.toList.getD k 0).toNat : Int)) W := idx_str Tryz.underlying9 s k i hi hk W
def RunePost (w : World) (e : Ending) (w' : World) : Prop := e = .returned (.int .i64 (-1)) ∧ Below w.heap.size w w'
set_option maxHeartbeats 1000000 in
set_option maxRecDepth 100000 in
theorem rune_no (r : Int) (w : World) (h1 : 128 ≤ r) (h2 : r ≤ 2147483647) : Calls Tryz.prog 227 #[.string crlS, .int .i32 r] w (RunePost w) := by
  by_cases he : r = 65533
  · subst he; exact rune_err w
  obtain ⟨v, hv⟩ : ∃ v, Lib.validRune r = v := ⟨_, rfl⟩
  have hvr := Tryz.utf8_ValidRune r w
  rw [hv] at hvr
  have HV := Lib.hid (hvr.mono fun e w' h => (⟨h.1, h.2.symm⟩ : e = .returned (.bool v) ∧ w = w'))
  have g0 : (0 : Int) ≤ r := by omega
  have g1 : (r == 65533) = false := by rw [beq_eq_false_iff_ne]; exact he
  clear hvr hv he
  rcases v with _ | _
  · obtain ⟨S, hS⟩ : ∃ S, crlS = S := ⟨_, rfl⟩
    rw [hS]
    clear hS
    go_enter Tryz.func227, Tryz.ntmps227
    go_wp2_with ((with_reducible refine HV.out.mono ?_); rintro e w1 ⟨rfl, rfl⟩)
    go_ret
    exact ⟨rfl, Below.refl _ _⟩
  · obtain ⟨b1, b2, b3⟩ := encode_big r h1
    obtain ⟨rs, hrs⟩ : ∃ rs, Utf8.encode r = rs := ⟨_, rfl⟩
    rw [hrs] at b1 b2 b3
    have hconv : ∀ W, (convert 21 9 (.int .i32 r)).run Tryz.prog W = .ok (.string rs) W := fun W => by rw [← hrs]; rfl
    obtain ⟨n, hn⟩ : ∃ n, rs.size = n := ⟨_, rfl⟩
    rw [hn] at b1 b2 b3
    have HN := Lib.hid hn
    obtain ⟨c, hc⟩ : ∃ c, rs.data.toList.getD (n - 1) 0 = c := ⟨_, rfl⟩
    rw [hc] at b3
    have hi2 := idx_getD rs (n - 1) (((n - 1 : Nat)) : Int) rfl (by omega)
    rw [hc] at hi2
    have HI2 := Lib.hid hi2
    have HB3 := Lib.hid b3
    clear hi2 hc hrs b3
    have i1 : ∀ W, (Instr.index 9 (.string crlS) (.int .i64 1)).run Tryz.prog W = .ok (.int .u8 13) W := fun W => idx_getD crlS 1 1 rfl (by decide) W
    have i2 : ∀ W, (Instr.index 9 (.string crlS) (.int .i64 2)).run Tryz.prog W = .ok (.int .u8 10) W := fun W => idx_getD crlS 2 2 rfl (by decide) W
    have s2 : ∀ W, (Instr.slice 9 (.string crlS) (some (.int .i64 2)) none none).run Tryz.prog W = .ok (.string ⟨#[10]⟩) W := fun W => by kernel_rfl
    have s3 : ∀ W, (Instr.slice 9 (.string crlS) (some (.int .i64 3)) none none).run Tryz.prog W = .ok (.string ⟨#[]⟩) W := fun W => by kernel_rfl
    have hsz : crlS.size = 3 := rfl
    have HS := Lib.hid (And.intro i1 (And.intro i2 (And.intro s2 s3)))
    have HZ := Lib.hid hsz
    clear i1 i2 s2 s3 hsz
    obtain ⟨S, hS⟩ : ∃ S, crlS = S := ⟨_, rfl⟩
    rw [hS] at HS HZ ⊢
    clear hS
    have hib : ∀ l : List UInt8, (∀ x ∈ l, x.toNat < 128) → Lib.indexByte l c = -1 := by
      intro l hl
      have hno : l.contains c = false := by
        rw [Bool.eq_false_iff]; intro hm
        have := hl c (by simpa using hm)
        have := HB3.out; omega
      have := Lib.contains_iff_indexByte l c
      rw [hno] at this
      have h0 := of_decide_eq_false this.symm
      have h1 := Lib.indexByte_ge l c
      omega
    have HC2 : ∀ W, Hid (Calls Tryz.prog 249 #[.string ⟨#[10]⟩, .int .u8 (c.toNat : Int)] W fun e w' => e = .returned (.int .i64 (-1)) ∧ w' = W) := fun W => Lib.hid ((Tryz.strings_IndexByte ⟨#[10]⟩ (c.toNat : Int) W).mono fun e w' h => ⟨by
      rw [h.1]
      have : ((c.toNat : Int)).toNat.toUInt8 = c := by simp
      rw [this, hib _ (by simp)], h.2⟩)
    have HC3 : ∀ W, Hid (Calls Tryz.prog 249 #[.string ⟨#[]⟩, .int .u8 (c.toNat : Int)] W fun e w' => e = .returned (.int .i64 (-1)) ∧ w' = W) := fun W => Lib.hid ((Tryz.strings_IndexByte ⟨#[]⟩ (c.toNat : Int) W).mono fun e w' h => ⟨by
      rw [h.1]
      have : ((c.toNat : Int)).toNat.toUInt8 = c := by simp
      rw [this, hib _ (by simp)], h.2⟩)
    have hne13 : ((13 : Int) != (c.toNat : Int)) = true := by rw [bne_iff_ne]; have := HB3.out; omega
    have hne10 : ((10 : Int) != (c.toNat : Int)) = true := by rw [bne_iff_ne]; have := HB3.out; omega
    clear hib
    have n234 : n = 2 ∨ n = 3 ∨ n = 4 := by omega
    clear b1 b2
    obtain ⟨h1, h2, h3, h4⟩ := HS.out
    have hz := HZ.out
    have hn := HN.out
    rcases n234 with rfl | rfl | rfl
    · have hi : ∀ W, (Instr.index 9 (.string rs) (.int .i64 1)).run Tryz.prog W = .ok (.int .u8 (c.toNat : Int)) W := fun W => HI2.out W
      go_enter Tryz.func227, Tryz.ntmps227
      go_wp2_with ((with_reducible refine HV.out.mono ?_); rintro e w1 ⟨rfl, rfl⟩)
      go_step3
      go_wp2
      refine wp_loop_rounds 1 ?_
      rw [rounds_succ]
      go_wp2
      go_step3
      go_wp2
      go_quiet (fail)
      have hb1 := below_drewN (Below.refl w.heap.size w) nq
      generalize w.drewN nq = W1 at hb1 ⊢
      have HB1 := Lib.hid hb1
      clear hb1
      go_wp2
      go_quiet ((exact Calls.quiet_of_same (HC2 _).out))
      have HB2 := Lib.hid (below_drewN HB1.out nq)
      go_wp2
      simp only [Exit.noGoto, Exit.inBlock, Exit.then]
      go_ret
      exact ⟨rfl, HB2.out⟩
    · have hi : ∀ W, (Instr.index 9 (.string rs) (.int .i64 2)).run Tryz.prog W = .ok (.int .u8 (c.toNat : Int)) W := fun W => HI2.out W
      go_enter Tryz.func227, Tryz.ntmps227
      go_wp2_with ((with_reducible refine HV.out.mono ?_); rintro e w1 ⟨rfl, rfl⟩)
      go_step3
      go_wp2
      refine wp_loop_rounds 1 ?_
      rw [rounds_succ]
      go_wp2
      go_step3
      go_wp2
      go_quiet (fail)
      have hb1 := below_drewN (Below.refl w.heap.size w) nq
      generalize w.drewN nq = W1 at hb1 ⊢
      have HB1 := Lib.hid hb1
      clear hb1
      go_wp2
      go_quiet ((exact Calls.quiet_of_same (HC3 _).out))
      have HB2 := Lib.hid (below_drewN HB1.out nq)
      go_wp2
      simp only [Exit.noGoto, Exit.inBlock, Exit.then]
      go_ret
      exact ⟨rfl, HB2.out⟩
    · have hi : ∀ W, (Instr.index 9 (.string rs) (.int .i64 3)).run Tryz.prog W = .ok (.int .u8 (c.toNat : Int)) W := fun W => HI2.out W
      go_enter Tryz.func227, Tryz.ntmps227
      go_wp2_with ((with_reducible refine HV.out.mono ?_); rintro e w1 ⟨rfl, rfl⟩)
      go_step3
      go_wp2
      refine wp_loop_rounds 1 ?_
      rw [rounds_succ]
      go_wp2
      (try simp only [Exit.noGoto, Exit.inBlock, Exit.then])
      go_ret
      exact ⟨rfl, Below.refl _ _⟩
theorem contains_small (x : UInt8) (h : x.toNat < 128) : Lib.indexByte crlS.data.toList x = if crl.contains x then Lib.indexByte crlS.data.toList x else -1 := by
  split
  · rfl
  · rename_i hc
    have := Lib.contains_iff_indexByte crl x
    rw [Bool.eq_false_iff.2 hc] at this
    have h0 := of_decide_eq_false this.symm
    have h1 := Lib.indexByte_ge crl x
    show Lib.indexByte crl x = -1
    omega
set_option maxRecDepth 100000 in
/-- strings.IndexRune at a plain rune. -/
theorem rune_plain (x : UInt8) (w : World) (h : x.toNat < 128) : Calls Tryz.prog 227 #[.string crlS, .int .i32 (x.toNat : Int)] w fun e w' => e = .returned (.int .i64 (Lib.indexByte crlS.data.toList x)) ∧ w = w' := by
  have hc := Tryz.strings_IndexByte crlS (x.toNat : Int) w
  have e : ((x.toNat : Int)).toNat.toUInt8 = x := by simp
  rw [e] at hc
  have HC := Lib.hid (hc.mono fun e w' h => (⟨h.1, h.2.symm⟩ : e = .returned (.int .i64 (Lib.indexByte crlS.data.toList x)) ∧ w = w'))
  have hw : ∀ W, (convert 21 5 (.int .i32 (x.toNat : Int))).run Tryz.prog W = .ok (.int .u8 (x.toNat : Int)) W := fun W => by
    have hx := x.toNat_lt
    have e2 : IntKind.u8.wrap (x.toNat : Int) = (x.toNat : Int) := by
      show ((x.toNat : Int)) % 256 = _
      omega
    simp [convert, go_sem, Tryz.underlying21, Tryz.underlying5, e2]
  clear hc e
  obtain ⟨i, hi⟩ : ∃ i, Lib.indexByte crlS.data.toList x = i := ⟨_, rfl⟩
  rw [hi] at HC ⊢
  clear hi
  obtain ⟨S, hS⟩ : ∃ S, crlS = S := ⟨_, rfl⟩
  rw [hS] at HC ⊢
  clear hS
  obtain ⟨n, hn⟩ : ∃ n, x.toNat = n := ⟨_, rfl⟩
  rw [hn] at HC hw h ⊢
  clear hn
  have h0 : (0 : Int) ≤ (n : Int) := by omega
  have h1 : (n : Int) < 128 := by omega
  go_enter Tryz.func227, Tryz.ntmps227
  go_wp2_with ((with_reducible refine HC.out.mono ?_); rintro e w1 ⟨rfl, rfl⟩)
  go_ret
  exact ⟨rfl, rfl⟩
def AnyPost (v : Int) (w : World) (e : Ending) (w' : World) : Prop := e = .returned (.int .i64 v) ∧ Below w.heap.size w w'
set_option maxHeartbeats 2000000 in
set_option maxRecDepth 100000 in
theorem indexAny_short (s : ByteArray) (w : World) (h8 : s.size ≤ 8) : Calls Tryz.prog 210 #[.string s, .string crlS] w (AnyPost (Lib.indexAny s.data.toList crl) w) := by
  have hemp : crlS.toList.isEmpty = false := by rw [Lib.toList_data]; rfl
  have hsz : crlS.size = 3 := rfl
  have HR := Lib.hid (fun r w h1 h2 => rune_no r w h1 h2)
  have HP := Lib.hid (fun x w h => rune_plain x w h)
  have hsu := Tryz.strings_shouldUseASCIISet (s.size : Int) w
  have h8z : decide ((8 : Int) < (s.size : Int)) = false := decide_eq_false (by omega)
  rw [h8z] at hsu
  have HSU := Lib.hid (hsu.mono fun e w' h => (⟨h.1, h.2.symm⟩ : e = .returned (.bool false) ∧ w = w'))
  clear hsu h8z h8
  have HCon := Lib.hid (fun x => Lib.contains_iff_indexByte crl x)
  have hcrl : crlS.data.toList = crl := rfl
  rw [hcrl] at HP
  clear hcrl
  obtain ⟨S, hS⟩ : ∃ S, crlS = S := ⟨_, rfl⟩
  rw [hS] at hemp hsz HR HP ⊢
  clear hS
  go_enter Tryz.func210, Tryz.ntmps210
  go_wp2_with ((with_reducible refine HSU.out.mono ?_); rintro e w1 ⟨rfl, rfl⟩)
  go_loopg [9, 10] s.size (fun g _ _ wx => ∃ i : Nat, i + g = s.size ∧ Hid (wx.heap[w.heap.size]? = some (.stringIter s i) ∧ Below w.heap.size w wx ∧ Lib.NoAny s.data.toList crl i))
  case atStart => exact ⟨0, by omega, Lib.hid ⟨World.iter_heap _ _ _, below_range _ _, Lib.NoAny.zero _ _⟩⟩
  case round =>
    obtain ⟨i, hig, hh⟩ := hrel
    by_cases hi : i < s.size
    · have hd := decode_any s i hi
      have hnx := fun ty => Lib.run_next_any_at (P := Tryz.prog) wr w.heap.size s i ty hh.out.1 hi
      obtain ⟨r, k, hrk⟩ : ∃ r k, Utf8.decode s i = (r, k) := ⟨_, _, rfl⟩
      rw [hrk] at hd hnx
      simp only at hd hnx
      have HI := Lib.hid (And.intro (Lib.iterAt_heap wr w.heap.size s i (i + k) hh.out.1) (Lib.below_iterAt hh.out.2.1 (Nat.le_refl _) s (i + k)))
      generalize wr.iterAt w.heap.size s (i + k) = W1 at hnx HI
      rcases hd with ⟨hx, he⟩ | ⟨d1, d2, d3, d4, d5⟩
      · obtain ⟨x, hxx⟩ : ∃ x, s.data.toList.getD i 0 = x := ⟨_, rfl⟩
        rw [hxx] at hx he
        injection he with he1 he2
        subst he1 he2
        have hxl : s.data.toList[i]? = some x := by
          have : i < s.data.toList.length := by rw [← Lib.size_eq]; exact hi
          rw [← hxx, List.getD, List.getElem?_eq_getElem this]; rfl
        have HX := Lib.hid hxl
        have hp := HP.out x W1 hx
        have hcon := HCon.out x
        obtain ⟨iv, hiv⟩ : ∃ iv, Lib.indexByte crl x = iv := ⟨_, rfl⟩
        rw [hiv] at hp hcon
        have HPP := Lib.hid hp
        obtain ⟨cb, hcb⟩ : ∃ cb, crl.contains x = cb := ⟨_, rfl⟩
        rw [hcb] at hcon
        have HCB := Lib.hid hcb
        clear hp hiv hcb hxl hxx hx hrk
        rcases cb with _ | _
        · have hlt : ¬ ((0 : Int) ≤ iv) := of_decide_eq_false hcon.symm
          clear hcon
          go_wp2_with ((with_reducible refine HPP.out.mono ?_); rintro e w2 ⟨rfl, rfl⟩)
          go_roundg (s.size - (i + 1))
          case measure => omega
          case rel => exact ⟨i + 1, by omega, Lib.hid ⟨HI.out.1, HI.out.2, hh.out.2.2.succ HX.out HCB.out⟩⟩
        · have hge : (0 : Int) ≤ iv := of_decide_eq_true hcon.symm
          clear hcon
          go_wp2_with ((with_reducible refine HPP.out.mono ?_); rintro e w2 ⟨rfl, rfl⟩)
          go_ret
          exact ⟨by rw [Lib.indexAny_hit hh.out.2.2 HX.out HCB.out]; rfl, HI.out.2⟩
      · have HPP := Lib.hid (HR.out (r : Int) W1 (by omega) (by omega))
        have HN := Lib.hid (noAny_more hh.out.2.2 k fun j hj _ => d5 j hj)
        clear hrk d1 d2 d5
        have hm1 : ¬ ((0 : Int) ≤ -1) := by omega
        go_wp2_with ((with_reducible refine HPP.out.mono ?_); rintro e w2 ⟨rfl, g2⟩; have G2 := Lib.hid g2; clear g2)
        go_roundg (s.size - (i + k))
        case measure => omega
        case rel => exact ⟨i + k, by omega, Lib.hid ⟨(G2.out.block _ (Array.getElem?_eq_some_iff.1 HI.out.1).1).trans HI.out.1, HI.out.2.trans (G2.out.mono HI.out.2.size), HN.out⟩⟩
    · have hnx := fun ty => Lib.run_next_end_at (P := Tryz.prog) wr w.heap.size s i ty hh.out.1 hi
      obtain rfl : i = s.size := by omega
      go_wp2
      go_ret
      exact ⟨by rw [Lib.indexAny_none (by rw [← Lib.size_eq]; exact hh.out.2.2)]; rfl, hh.out.2.1⟩
theorem containsAny3 (s : ByteArray) (w : World) (hs : s.size ≤ 1000000000) : Calls Tryz.prog 167 #[.string s, .string crlS] w fun e w' => e = .returned (.bool (Lib.containsAny s.data.toList crl)) ∧ Below w.heap.size w w' := by
  have hc : Calls Tryz.prog 210 #[.string s, .string crlS] w (AnyPost (Lib.indexAny s.data.toList crl) w) := by
    by_cases h8 : s.size ≤ 8
    · exact indexAny_short s w h8
    · refine (Tryz.strings_IndexAny_long (fun w => by kernel_rfl) s crlS w (by decide) (by omega) (by omega) (by decide) (fun j b hb => by
        rcases j with _ | _ | _ | j <;> simp [crlS] at hb <;> subst hb <;> decide)).mono ?_
      rintro e w1 ⟨h1, h2⟩
      refine ⟨h1, ?_⟩
      rw [h2]
      exact ((Below.refl _ _).alloc (Nat.le_refl _) _).alloc (by simp) _
  have HC := Lib.hid hc
  clear hc
  obtain ⟨v, hv⟩ : ∃ v, Lib.indexAny s.data.toList crl = v := ⟨_, rfl⟩
  have hb : Lib.containsAny s.data.toList crl = decide (0 ≤ v) := by rw [← hv]; rfl
  rw [hb]
  rw [hv] at HC
  clear hb hv
  obtain ⟨S, hS⟩ : ∃ S, crlS = S := ⟨_, rfl⟩
  rw [hS] at HC ⊢
  clear hS
  go_enter Tryz.func167, Tryz.ntmps167
  go_wp2_with ((with_reducible refine HC.out.mono ?_); rintro e w1 ⟨rfl, g1⟩; have G1 := Lib.hid g1; clear g1)
  go_ret
  exact ⟨rfl, G1.out⟩
end Go.Proofs.YtkpppjhbmnfmkaaGreatDoor.H6
end

section
namespace Go.Proofs.YtkpppjhbmnfmkaaGreatDoor.H6
open Go.RowKit Go.Own Go.Own.Hd Go.Own.Rn
def BelPost (v : Bool) (w : World) (e : Ending) (w' : World) : Prop := e = .returned (.bool v) ∧ Below w.heap.size w w'
set_option maxHeartbeats 1000000 in
set_option maxRecDepth 100000 in
theorem value_any (s : ByteArray) (w : World) (hs : s.size ≤ 1000000000) : Calls Tryz.prog 132 #[.string s] w (BelPost (valueB s.data.toList) w) := by
  have hc : Calls Tryz.prog 167 #[.string s, .string ⟨#[0, 13, 10]⟩] w fun e w' => e = .returned (.bool (Lib.containsAny s.data.toList crl)) ∧ Below w.heap.size w w' := containsAny3 s w hs
  obtain ⟨cb, hcb⟩ : ∃ cb, Lib.containsAny s.data.toList crl = cb := ⟨_, rfl⟩
  rw [hcb] at hc
  have HC := Lib.hid hc
  have hV : valueB s.data.toList = (!cb && (s.data.toList.isEmpty || (!blankB (s.data.toList.getD 0 0) && !blankB (s.data.toList.getD (s.data.toList.length - 1) 0)))) := by rw [← hcb]; rfl
  have HV := Lib.hid hV
  clear hc hcb hV
  by_cases h0 : s.size = 0
  · have hemp : s.toList.isEmpty = true := by rw [Lib.toList_data]; have := Lib.size_eq s; rw [h0] at this; rw [List.isEmpty_iff]; exact List.length_eq_zero_iff.1 this.symm
    have HV2 := Lib.hid (show valueB s.data.toList = !cb by rw [HV.out]; rw [Lib.toList_data] at hemp; rw [hemp]; simp)
    rcases cb with _ | _
    all_goals
      go_enter Tryz.func132, Tryz.ntmps132
      go_wp2_with ((with_reducible refine HC.out.mono ?_); rintro e w1 ⟨rfl, g1⟩; have G1 := Lib.hid g1; clear g1)
      go_ret
      exact ⟨by rw [HV2.out]; rfl, G1.out⟩
  · have hemp : s.toList.isEmpty = false := by
      rw [Lib.toList_data]
      cases h : s.data.toList with
      | nil => have := Lib.size_eq s; rw [h] at this; exact absurd this h0
      | cons _ _ => rfl
    have i0 := idx_getD s 0 0 rfl (by omega)
    have i1 := idx_getD s (s.size - 1) ((s.size : Int) - 1) (by omega) (by omega)
    obtain ⟨x, hx⟩ : ∃ x, s.data.toList.getD 0 0 = x := ⟨_, rfl⟩
    obtain ⟨y, hy⟩ : ∃ y, s.data.toList.getD (s.size - 1) 0 = y := ⟨_, rfl⟩
    rw [hx] at i0
    rw [hy] at i1
    have HV2 := Lib.hid (show valueB s.data.toList = (!cb && (!blankB x && !blankB y)) by rw [HV.out, hx, ← Lib.size_eq, hy]; rw [Lib.toList_data] at hemp; rw [hemp]; simp)
    have c0 := fun W => blank_any x (x.toNat : Int) rfl W
    have c1 := fun W => blank_any y (y.toNat : Int) rfl W
    obtain ⟨xi, hxi⟩ : ∃ xi : Int, (x.toNat : Int) = xi := ⟨_, rfl⟩
    obtain ⟨yi, hyi⟩ : ∃ yi : Int, (y.toNat : Int) = yi := ⟨_, rfl⟩
    rw [hxi] at i0 c0
    rw [hyi] at i1 c1
    obtain ⟨bx, hbx⟩ : ∃ b, blankB x = b := ⟨_, rfl⟩
    obtain ⟨b2, hb2⟩ : ∃ b, blankB y = b := ⟨_, rfl⟩
    rw [hbx] at c0 HV2
    rw [hb2] at c1 HV2
    have H0 := Lib.hid c0
    have H1 := Lib.hid c1
    have hs1 : (1 : Int) ≤ (s.size : Int) := by omega
    clear c0 c1 hbx hb2 hxi hyi hx hy HV h0
    rcases cb with _ | _
    · rcases bx with _ | _
      all_goals rcases b2 with _ | _
      all_goals
        go_enter Tryz.func132, Tryz.ntmps132
        go_wp2_with (first
          | ((with_reducible refine HC.out.mono ?_); rintro e w1 ⟨rfl, g1⟩; have G1 := Lib.hid g1; clear g1)
          | ((with_reducible refine (H0.out _).mono ?_); rintro e w2 ⟨rfl, rfl⟩)
          | ((with_reducible refine (H1.out _).mono ?_); rintro e w2 ⟨rfl, rfl⟩))
        go_ret
        exact ⟨by rw [HV2.out]; rfl, G1.out⟩
    · go_enter Tryz.func132, Tryz.ntmps132
      go_wp2_with ((with_reducible refine HC.out.mono ?_); rintro e w1 ⟨rfl, g1⟩; have G1 := Lib.hid g1; clear g1)
      go_ret
      exact ⟨by rw [HV2.out]; rfl, G1.out⟩
end Go.Proofs.YtkpppjhbmnfmkaaGreatDoor.H6
end

section
namespace Go.Proofs.YtkpppjhbmnfmkaaGreatDoor.H6
open Go.RowKit Go.Own Go.Own.Hd Go.Own.Rn
theorem beq_dec (a b : List UInt8) : (a == b) = decide (a = b) := by rw [Bool.eq_iff_iff]; simp
def plain6 (b1 b2 b3 b4 b5 b6 b7 b8 : Bool) : Bool := if b1 || b2 || b3 || b4 || b5 then false else if b6 then b7 else b8
theorem plain_bits (h : HdrV) : plainB h = plain6 (h.name.toList == [99, 111, 110, 110, 101, 99, 116, 105, 111, 110]) (h.name.toList == [112, 114, 111, 120, 121, 45, 99, 111, 110, 110, 101, 99, 116, 105, 111, 110]) (h.name.toList == [107, 101, 101, 112, 45, 97, 108, 105, 118, 101])
    (h.name.toList == [116, 114, 97, 110, 115, 102, 101, 114, 45, 101, 110, 99, 111, 100, 105, 110, 103]) (h.name.toList == [117, 112, 103, 114, 97, 100, 101]) (h.name.toList == [116, 101]) (h.value.toList == [116, 114, 97, 105, 108, 101, 114, 115]) (nameB (tx h.name) && valueB (tx h.value)) := by
  simp only [beq_dec, Lib.toList_data, plain6, plainB, tx, conn, pconn, keepa, trenc, upgr, te, trails, Bool.or_eq_true, decide_eq_true_eq, List.cons_append, List.nil_append, or_assoc]
  split
  · rename_i h1
    exact if_pos h1
  · rename_i h1
    exact if_neg h1
set_option maxHeartbeats 2000000 in
set_option maxRecDepth 100000 in
theorem plain_any (h : HdrV) (w : World) {e1 e2 e3 : Addr} (he : EnvH w e1 e2 e3) (hn : h.name.size ≤ 1000000000) (hv : h.value.size ≤ 1000000000) :
    Calls Tryz.prog 169 #[.agg #[.string h.name, .string h.value, .bool h.never]] w (BelPost (plainB h) w) := by
  have HP := Lib.hid (plain_bits h)
  obtain ⟨n, v, nv⟩ := h
  simp only at HP hn hv ⊢
  have HN := Lib.hid (fun W (hb : Below w.heap.size w W) => name_any n W (he.below hb he.room) hn)
  have HVl := Lib.hid (fun W => value_any v W hv)
  clear he hn hv
  obtain ⟨nb, hnb⟩ : ∃ b, nameB n.data.toList = b := ⟨_, rfl⟩
  obtain ⟨vb, hvb⟩ : ∃ b, valueB v.data.toList = b := ⟨_, rfl⟩
  rw [hvb] at HVl
  have HPn := Lib.hid (show plainB ⟨n, v, nv⟩ = plain6 (n.toList == [99, 111, 110, 110, 101, 99, 116, 105, 111, 110]) (n.toList == [112, 114, 111, 120, 121, 45, 99, 111, 110, 110, 101, 99, 116, 105, 111, 110]) (n.toList == [107, 101, 101, 112, 45, 97, 108, 105, 118, 101])
    (n.toList == [116, 114, 97, 110, 115, 102, 101, 114, 45, 101, 110, 99, 111, 100, 105, 110, 103]) (n.toList == [117, 112, 103, 114, 97, 100, 101]) (n.toList == [116, 101]) (v.toList == [116, 114, 97, 105, 108, 101, 114, 115]) (nb && vb) by rw [← hnb, ← hvb]; exact HP.out)
  have HN2 := Lib.hid (fun W (hb : Below w.heap.size w W) => (show Calls Tryz.prog 211 #[.string n] W fun e w' => e = .returned (.bool nb) ∧ W = w' from by
    have := HN.out W hb
    unfold NamePost at this
    rw [hnb] at this
    exact this))
  clear HP HN hnb hvb
  obtain ⟨pb, hpb⟩ : ∃ pb, plainB ⟨n, v, nv⟩ = pb := ⟨_, rfl⟩
  rw [hpb] at HPn ⊢
  clear hpb
  obtain ⟨b1, hb1⟩ : ∃ b, (n.toList == [99, 111, 110, 110, 101, 99, 116, 105, 111, 110]) = b := ⟨_, rfl⟩
  obtain ⟨b2, hb2⟩ : ∃ b, (n.toList == [112, 114, 111, 120, 121, 45, 99, 111, 110, 110, 101, 99, 116, 105, 111, 110]) = b := ⟨_, rfl⟩
  obtain ⟨b3, hb3⟩ : ∃ b, (n.toList == [107, 101, 101, 112, 45, 97, 108, 105, 118, 101]) = b := ⟨_, rfl⟩
  obtain ⟨b4, hb4⟩ : ∃ b, (n.toList == [116, 114, 97, 110, 115, 102, 101, 114, 45, 101, 110, 99, 111, 100, 105, 110, 103]) = b := ⟨_, rfl⟩
  obtain ⟨b5, hb5⟩ : ∃ b, (n.toList == [117, 112, 103, 114, 97, 100, 101]) = b := ⟨_, rfl⟩
  obtain ⟨b6, hb6⟩ : ∃ b, (n.toList == [116, 101]) = b := ⟨_, rfl⟩
  obtain ⟨b7, hb7⟩ : ∃ b, (v.toList == [116, 114, 97, 105, 108, 101, 114, 115]) = b := ⟨_, rfl⟩
  rw [hb1, hb2, hb3, hb4, hb5, hb6, hb7] at HPn
  have g0 : Below w.heap.size w (w.alloc (.cells #[.string n, .string v, .bool nv] 63)) := (Below.refl _ _).alloc (Nat.le_refl _) _
  have G0 := Lib.hid g0
  clear g0
  rcases b1 with _ | _
  · rcases b2 with _ | _
    · rcases b3 with _ | _
      · rcases b4 with _ | _
        · rcases b5 with _ | _
          · rcases b6 with _ | _
            · rcases nb with _ | _
              · go_enter Tryz.func169, Tryz.ntmps169
                go_wp2_with ((with_reducible refine (HN2.out _ G0.out).mono ?_); rintro e w1 ⟨rfl, rfl⟩)
                go_ret
                exact ⟨by rw [HPn.out]; rfl, G0.out⟩
              · go_enter Tryz.func169, Tryz.ntmps169
                go_wp2_with (first
                  | ((with_reducible refine (HN2.out _ G0.out).mono ?_); rintro e w1 ⟨rfl, rfl⟩)
                  | ((with_reducible refine (HVl.out _).mono ?_); rintro e w1 ⟨rfl, g1⟩; have G1 := Lib.hid g1; clear g1))
                go_ret
                exact ⟨by rw [HPn.out]; rfl, G0.out.trans (G1.out.mono G0.out.size)⟩
            · go_enter Tryz.func169, Tryz.ntmps169
              go_wp2
              go_ret
              exact ⟨by rw [HPn.out]; rfl, G0.out⟩
          all_goals
            go_enter Tryz.func169, Tryz.ntmps169
            go_wp2
            go_ret
            exact ⟨by rw [HPn.out]; rfl, G0.out⟩
        all_goals
          go_enter Tryz.func169, Tryz.ntmps169
          go_wp2
          go_ret
          exact ⟨by rw [HPn.out]; rfl, G0.out⟩
      all_goals
        go_enter Tryz.func169, Tryz.ntmps169
        go_wp2
        go_ret
        exact ⟨by rw [HPn.out]; rfl, G0.out⟩
    all_goals
      go_enter Tryz.func169, Tryz.ntmps169
      go_wp2
      go_ret
      exact ⟨by rw [HPn.out]; rfl, G0.out⟩
  all_goals
    go_enter Tryz.func169, Tryz.ntmps169
    go_wp2
    go_ret
    exact ⟨by rw [HPn.out]; rfl, G0.out⟩
def errH (e1 : Addr) : Value := .iface 327 (.pointer (some e1))
/-- nil, or ErrHead. -/
def ErrPost (ok : Bool) (e1 : Addr) (w : World) (e : Ending) (w' : World) : Prop := e = .returned (bif ok then .nilIface else errH e1) ∧ Below w.heap.size w w'
/-- The texts of all headers are not too long. -/
def Szs (l : List HdrV) : Prop := ∀ h ∈ l, h.name.size ≤ 1000000000 ∧ h.value.size ≤ 1000000000
theorem Szs.at_ {l : List HdrV} (h : Szs l) (k : Nat) : (l.getD k ⟨⟨#[]⟩, ⟨#[]⟩, false⟩).name.size ≤ 1000000000 ∧ (l.getD k ⟨⟨#[]⟩, ⟨#[]⟩, false⟩).value.size ≤ 1000000000 := by
  rw [List.getD]
  rcases hk : l[k]? with _ | x
  · exact ⟨by decide, by decide⟩
  · exact h x (List.mem_of_getElem? hk)
theorem all_take_more {α : Type} (l : List α) (d : α) (p : α → Bool) (k : Nat) (hk : k < l.length) (h : (l.take k).all p = true) (hp : p (l.getD k d) = true) : (l.take (k + 1)).all p = true := by
  rw [List.take_succ_eq_append_getElem hk, List.all_append, h]
  have : l.getD k d = l[k] := by simp [List.getD, hk]
  rw [← this]
  simp only [List.all_cons, List.all_nil, hp, Bool.and_true, Bool.true_and]
theorem all_not_at {α : Type} (l : List α) (d : α) (p : α → Bool) (k : Nat) (hk : k < l.length) (hp : p (l.getD k d) = false) : l.all p = false := by
  rw [Bool.eq_false_iff]
  intro h
  have := List.all_eq_true.1 h (l[k]) (List.getElem_mem hk)
  have e : l.getD k d = l[k] := by simp [List.getD, hk]
  rw [e] at hp
  rw [hp] at this
  cases this
set_option maxHeartbeats 1000000 in
set_option maxRecDepth 100000 in
theorem trailers_any (A : Option Addr) (n c : Nat) (l : List HdrV) (w : World) {e1 e2 e3 : Addr} (he : EnvH w e1 e2 e3) (hn : n ≤ 1000000000) (h1 : Hr w A n l) (hz : Szs l) :
    Calls Tryz.prog 133 #[.slice A n c] w (ErrPost (l.all plainB) e1 w) := by
  have H1 := Lib.hid h1
  have HE := Lib.hid he
  have HZ := Lib.hid hz
  have HL := Lib.hid h1.1
  clear h1 he hz
  go_enter Tryz.func133, Tryz.ntmps133
  go_wp2
  go_loopw [7] (fun i wr => ∃ k : Nat, k ≤ n ∧ i = .int .i64 (k : Int) ∧ Hid (Below w.heap.size w wr ∧ (l.take k).all plainB = true)) (fun i _ => n - (intOf i).toNat)
  case atStart => exact ⟨0, by omega, rfl, Lib.hid ⟨Below.refl _ _, by simp⟩⟩
  case round =>
    obtain ⟨k, hk, rfl, hh⟩ := hrel
    by_cases hlt : k < n
    · obtain ⟨ad, rfl, a0, a1, a2⟩ := (H1.out.below hh.out.1).at_ hlt
      obtain ⟨s1, s2⟩ := HZ.out.at_ k
      have hal := HL.out
      obtain ⟨x, hx⟩ : ∃ x, l.getD k ⟨⟨#[]⟩, ⟨#[]⟩, false⟩ = x := ⟨_, rfl⟩
      rw [hx] at a0 a1 a2 s1 s2
      have HP := Lib.hid (fun W (hb : Below w.heap.size w W) => plain_any x W (HE.out.below hb HE.out.room) s1 s2)
      obtain ⟨b, hb⟩ : ∃ b, plainB x = b := ⟨_, rfl⟩
      rw [hb] at HP
      rw [← hx] at hb
      have HBB := Lib.hid hb
      obtain ⟨xn, xv, xb⟩ := x
      simp only at a0 a1 a2 HP
      clear hx hb s1 s2
      have i0 : (0 : Int) ≤ (k : Int) := by omega
      have i1 : (k : Int) < (n : Int) := by omega
      have hb1 := ((hh.out.1.alloc hh.out.1.size (.cells #[.string ⟨#[]⟩, .string ⟨#[]⟩, .bool false] 63)))
      have HB1 := Lib.hid (hh.out.1.alloc hh.out.1.size (.cells #[.string xn, .string xv, .bool xb] 63))
      clear hb1
      rcases b with _ | _
      · have HF := Lib.hid (all_not_at l _ plainB k (by omega) HBB.out)
        clear hal
        have hcell := HE.out.head
        have hce : wr.cell? ⟨0, 0, none⟩ = some (.iface 327 (.pointer (some e1))) := ((HE.out.below hh.out.1 HE.out.room).head)
        clear hcell hce
        go_wp2_with ((with_reducible refine (HP.out _ HB1.out).mono ?_); rintro e w2 ⟨rfl, g1⟩; have G1 := Lib.hid (HB1.out.trans (g1.mono HB1.out.size)); clear g1; have hce := (HE.out.below G1.out HE.out.room).head)
        go_ret
        exact ⟨by rw [HF.out]; rfl, G1.out⟩
      · have HN := Lib.hid (all_take_more l _ plainB k (by omega) hh.out.2 HBB.out)
        clear hal
        go_wp2_with ((with_reducible refine (HP.out _ HB1.out).mono ?_); rintro e w2 ⟨rfl, g1⟩; have G1 := Lib.hid (HB1.out.trans (g1.mono HB1.out.size)); clear g1)
        go_roundw
        case rel => exact ⟨k + 1, hlt, by go_num, Lib.hid ⟨G1.out, HN.out⟩⟩
        case measure => simp [intOf]; omega
    · obtain rfl : k = n := by omega
      go_wp2
      go_ret
      refine ⟨?_, hh.out.1⟩
      have := hh.out.2
      rw [List.take_of_length_le (by rw [HL.out]; exact Nat.le_refl _)] at this
      rw [this]
      rfl
end Go.Proofs.YtkpppjhbmnfmkaaGreatDoor.H6
end
