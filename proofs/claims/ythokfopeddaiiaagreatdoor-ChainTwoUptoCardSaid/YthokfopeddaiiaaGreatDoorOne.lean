/-
  Contracts: parleylaw27.made, lists, few, says; chain.Chain of numbers.
-/
import Derived.Test.YthokfopeddaiiaaGreatDoorMade
import Derived.Test.YthokfopeddaiiaaGreatDoorCal
namespace Go.Proofs.YthokfopeddaiiaaGreatDoor
open Go.RowKit Go.Own Go.Own.Fn Go.Shelf
variable {σ : Type}
theorem made_any (S : Stt σ) (hS : Steady S) (ex : Nat → Prop) (k N : Int) (w : World) (hex : ∀ g, ex g → g < w.heap.size) (hrow : ∀ g, S.row = some g → ex g) :
    Calls Tryz.prog 45 #[.agg #[.int .i64 k, .int .i64 N]] w fun e w' => ∃ r, e = .returned r ∧ Arnd Tryz.prog S intL intL ex r (oneF (k, N)) w' ∧ Below w.heap.size w w' := by
  obtain ⟨W, hW⟩ : ∃ W, w.alloc (.cells #[.int .i64 k, .int .i64 N] 86) = W := ⟨_, rfl⟩
  have hb : Blk W w.heap.size 86 #[.int .i64 k, .int .i64 N] := hW ▸ Blk.new _ _ _
  have bel : Below w.heap.size w W := hW ▸ (Below.refl _ _).alloc (Nat.le_refl _) _
  have hx : ¬ ex w.heap.size := fun h => Nat.lt_irrefl _ (hex _ h)
  have hex' : ∀ g, ex g → g < W.heap.size := fun g hg => Nat.lt_of_lt_of_le (hex g hg) bel.size
  have p1 : ∀ K f, (∀ x w1, Blk w1 w.heap.size 86 #[.int .i64 k, .int .i64 N] → Calls Tryz.prog K #[.int .i64 x, .pointer (some ⟨w.heap.size, 0, none⟩)] w1 fun e w' => e = .returned (f x) ∧ w1 = w') → (Enters Tryz.prog K) → Pur Tryz.prog ex (.func (.func K) #[] #[.pointer (some ⟨w.heap.size, 0, none⟩)]) f W :=
    fun K f h hE => ⟨K, _, rfl, hE, fun w1 x hw => (h x w1 (Blk.kx hb hw hx)).mono fun e w2 ⟨h1, h2⟩ => ⟨h1, h2 ▸ Below.refl _ _⟩⟩
  have p84 := p1 84 _ (fun x w1 h => pur84 _ k N x w1 h) (enters_of Tryz.func84 (by kernel_rfl) rfl)
  have p85 := p1 85 _ (fun x w1 h => pur85 _ k N x w1 h) (enters_of Tryz.func85 (by kernel_rfl) rfl)
  have p88 := p1 88 _ (fun x w1 h => pur88 _ k N x w1 h) (enters_of Tryz.func88 (by kernel_rfl) rfl)
  have p87 : ∀ W, Pur Tryz.prog ex (.func (.func 87) #[] #[]) (fun x => .bool (odd x)) W := fun W => ⟨_, #[], rfl, enters_of Tryz.func87 (by kernel_rfl) rfl, fun w1 x _ => (pur87 x w1).mono fun e w2 ⟨h1, h2⟩ => ⟨h1, h2 ▸ Below.refl _ _⟩⟩
  have p89 : Pur Tryz.prog ex (.func (.func 89) #[] #[]) (fun x => .bool (odd x)) W := ⟨_, #[], rfl, enters_of Tryz.func89 (by kernel_rfl) rfl, fun w1 x _ => (pur89 x w1).mono fun e w2 ⟨h1, h2⟩ => ⟨h1, h2 ▸ Below.refl _ _⟩⟩
  have c1 := Lib.hid (before_i S hS ex _ _ W hex' p84)
  have c2 := Lib.hid (after_i S hS ex hrow _ _ W hex' p85)
  have c3 := Lib.hid (after_i S hS ex hrow _ _ W hex' p88)
  have c4 := Lib.hid (times_i S hS ex hrow N _ odd W hex' p89)
  have P87 := Lib.hid p87
  have HB := Lib.hid bel
  have HX := Lib.hid hex'
  have q0 : W.cell? ⟨w.heap.size, 0, none⟩ = some (.int .i64 k) := hb.cell 0
  have q1 : W.cell? ⟨w.heap.size, 1, none⟩ = some (.int .i64 N) := hb.cell 1
  clear hb bel hx hex' p1 p84 p85 p88 p87 p89
  by_cases h1 : k = 1
  · subst h1
    go_enter Tryz.func45, Tryz.ntmps45
    go_wp2_with fail
    refine c1.out.mono ?_
    rintro e w1 ⟨r, rfl, h1, h2⟩
    have HR := Lib.hid (And.intro h1 (HB.out.trans (h2.mono HB.out.size)))
    clear h1 h2
    go_wp2
    go_ret
    exact ⟨r, rfl, HR.out.1, HR.out.2⟩
  have e1 : (k == 1) = false := by simpa using h1
  by_cases h2 : k = 2
  · subst h2
    go_enter Tryz.func45, Tryz.ntmps45
    go_wp2_with fail
    refine c2.out.mono ?_
    rintro e w1 ⟨r, rfl, h1, h2⟩
    have HR := Lib.hid (And.intro h1 (HB.out.trans (h2.mono HB.out.size)))
    clear h1 h2
    go_wp2
    go_ret
    exact ⟨r, rfl, HR.out.1, HR.out.2⟩
  have e2 : (k == 2) = false := by simpa using h2
  by_cases h3 : k = 3
  · subst h3
    go_enter Tryz.func45, Tryz.ntmps45
    go_wp2_with fail
    refine c3.out.mono ?_
    rintro e w1 ⟨r, rfl, h1, h2⟩
    have HR := Lib.hid (And.intro h1 h2)
    obtain ⟨K, f, cap, rfl, _⟩ := h1
    clear h2
    go_wp2_with fail
    refine (when_i S hS ex _ _ odd _ w1 (fun g hg => Nat.lt_of_lt_of_le (HX.out g hg) HR.out.2.size) (P87.out _) HR.out.1).mono ?_
    rintro e w2 ⟨r, rfl, h1, h2⟩
    have HR := Lib.hid (And.intro h1 (HB.out.trans ((HR.out.2.trans (h2.mono HR.out.2.size)).mono HB.out.size)))
    clear h1 h2
    go_wp2
    go_ret
    exact ⟨r, rfl, HR.out.1, HR.out.2⟩
  have e3 : (k == 3) = false := by simpa using h3
  have HF : Hid ((oneF (k, N) : (Int → σ → Int × σ) → Int → σ → Int × σ) = fun F x s => timesF odd F x ((min N 100).toNat - 1) (F x s)) := Lib.hid (by funext F x s; simp [oneF, h1, h2, h3])
  go_enter Tryz.func45, Tryz.ntmps45
  go_wp2_with fail
  refine c4.out.mono ?_
  rintro e w1 ⟨r, rfl, h1, h2⟩
  have HR := Lib.hid (And.intro h1 (HB.out.trans (h2.mono HB.out.size)))
  clear h1 h2
  go_wp2
  go_ret
  exact ⟨r, rfl, by rw [HF.out]; exact HR.out.1, HR.out.2⟩
/-- A slice of Ones. -/
def On (w : World) (A : Option Addr) (n : Nat) (l : List (Int × Int)) : Prop :=
  l.length = n ∧ (0 < n → ∃ ad, A = some ad ∧ ad.block < w.heap.size ∧ ∀ j, j < n → w.cell? (ad.add (j * 2)) = some (.int .i64 (l.getD j (0, 0)).1) ∧ w.cell? ⟨(ad.add (j * 2)).block, (ad.add (j * 2)).off + 1, none⟩ = some (.int .i64 (l.getD j (0, 0)).2))
theorem On.below {w w' : World} {A : Option Addr} {n : Nat} {l : List (Int × Int)} (h : On w A n l) (hb : Below w.heap.size w w') : On w' A n l :=
  ⟨h.1, fun hn => by
    obtain ⟨ad, e, h1, h2⟩ := h.2 hn
    refine ⟨ad, e, Nat.lt_of_lt_of_le h1 hb.size, fun j hj => ?_⟩
    rw [hb.cell (by rw [add_block]; exact h1), hb.cell (by show (ad.add (j * 2)).block < _; rw [add_block]; exact h1)]
    exact h2 j hj⟩
/-- While a list of interceptors is made. -/
structure LsJ (S : Stt σ) (ex R : Nat → Prop) (w : World) (l : List (Int × Int)) (k : Nat) (v : Value) (avs : List Value) (wr : World) : Prop where
  len : avs.length = k
  own : wr.ownsRow w.heap.size 54 1 v k avs
  bel : Below w.heap.size w wr
  lt : ∀ i, R i → i < wr.heap.size
  mine : ∀ g, v.ownBlock = some g → R g
  av : ∀ j, j < k → ∃ av, avs[j]? = some av ∧ Arnd Tryz.prog S intL intL (fun i => ex i ∨ R i) av (oneF (l.getD j (0, 0))) wr
theorem LsJ.step {S : Stt σ} {ex R : Nat → Prop} {w wr w1 w3 : World} {l : List (Int × Int)} {k : Nat} {v v' r : Value} {avs : List Value} (h : LsJ S ex R w l k v avs wr) (hb : Below wr.heap.size wr w1)
    (hr : Arnd Tryz.prog S intL intL (fun i => ex i ∨ R i) r (oneF (l.getD k (0, 0))) w1) (o : Obj)
    (hown : w3.ownsRow w.heap.size 54 1 v' (k + 1) (avs ++ [r])) (hg : (w1.alloc o).grownBy w3 v.ownBlock) (hv : v'.ownBlock = v.ownBlock ∨ v'.ownBlock = some (w1.alloc o).heap.size) :
    ∃ R', LsJ S ex R' w l (k + 1) v' (avs ++ [r]) w3 := by
  have hsz := h.bel.size
  have hb2 : Below wr.heap.size wr (w1.alloc o) := hb.alloc hb.size _
  have hz2 := hb2.size
  have bel3 : Below w.heap.size w w3 := ⟨hg.os.trans (hb2.os.trans h.bel.os), hg.tape.trans (hb2.tape.trans h.bel.tape), hg.output.trans (hb2.output.trans h.bel.output), Nat.le_trans hsz (Nat.le_trans hz2 hg.size), fun i hi => by
    rw [hg.block i (by omega) (fun e => by have := (h.own.lt i e.symm).1; omega)]
    exact ((hb2.mono hsz).block i hi).trans (h.bel.block i hi)⟩
  refine ⟨fun i => R i ∨ v'.ownBlock = some i, ?_, hown, bel3, ?_, fun g hg => .inr hg, ?_⟩
  · simp [h.len]
  · rintro i (hi | hi)
    · have := h.lt i hi; have := hg.size; omega
    · exact (hown.lt i hi).2
  · have kx2 : ∀ (av : Value) (A : (Int → σ → Int × σ) → Int → σ → Int × σ), Arnd Tryz.prog S intL intL (fun i => ex i ∨ R i) av A (w1.alloc o) → Arnd Tryz.prog S intL intL (fun i => ex i ∨ R i ∨ v'.ownBlock = some i) av A w3 := by
      intro av A hA
      refine (hA.letbe (ex' := fun i => ex i ∨ R i ∨ v'.ownBlock = some i) fun i hi he => ?_).kx (Kx.grown hg fun g e => .inr (.inl (h.mine g e)))
      rcases he with he | he | he
      · exact .inl he
      · exact .inr he
      · rcases hv with hv | hv
        · exact .inr (h.mine i (hv ▸ he))
        · rw [hv] at he
          injection he with he
          omega
    intro j hj
    rcases Nat.lt_or_ge j k with hlt | hge
    · obtain ⟨av, h1, h2⟩ := h.av j hlt
      refine ⟨av, ?_, kx2 _ _ (h2.kx (Kx.below hb2))⟩
      rw [List.getElem?_append_left (by rw [h.len]; exact hlt)]
      exact h1
    · obtain rfl : j = k := by omega
      refine ⟨r, ?_, kx2 _ _ (hr.kx (Kx.below ((Below.refl _ _).alloc (Nat.le_refl _) _)))⟩
      rw [List.getElem?_append_right (by rw [h.len]; exact Nat.le_refl _), h.len]
      simp
theorem LsJ.done {S : Stt σ} {ex R : Nat → Prop} {w wr : World} {l : List (Int × Int)} {v : Value} {avs : List Value} {n : Nat} (hl : l.length = n) (h : LsJ S ex R w l n v avs wr) :
    ∃ A c, v = .slice A n c ∧ n ≤ c ∧ IsArs Tryz.prog S (fun _ => intL) 0 ex wr A n (l.map oneF) ∧ Below w.heap.size w wr := by
  have each : ∀ A c, v = .slice A n c → (∀ j av, avs[j]? = some av → ∃ ad, A = some ad ∧ ad.block < wr.heap.size ∧ wr.cell? (ad.add j) = some av) → IsArs Tryz.prog S (fun _ => intL) 0 ex wr A n (l.map oneF) := by
    intro A c _ hc
    refine ⟨by simpa using hl, fun j B hB => ?_⟩
    have hj : j < n := by
      have := (List.getElem?_eq_some_iff.1 hB).1
      simpa [hl] using this
    obtain ⟨av, h1, h2⟩ := h.av j hj
    obtain ⟨ad, e1, e2, e3⟩ := hc j av h1
    refine ⟨ad, av, e1, e2, e3, ?_⟩
    have : B = oneF (l.getD j (0, 0)) := by
      rw [List.getElem?_map] at hB
      simp [List.getD, List.getElem?_eq_getElem (show j < l.length by omega)] at hB ⊢
      exact hB.symm
    rw [this]
    exact h2.letbe fun i _ hi => .inl hi
  have hown := h.own
  rcases hown.2 with ⟨rfl, h0⟩ | ⟨g, cap, cur, rfl, hb, hg, hnc, _⟩
  · have hn0 : n = 0 := h0
    subst hn0
    exact ⟨none, 0, rfl, Nat.le_refl _, each none 0 rfl (fun j av hj => by
      have : avs = [] := List.eq_nil_of_length_eq_zero h.len
      rw [this] at hj; simp at hj), h.bel⟩
  · refine ⟨_, cap, rfl, hnc, each _ _ rfl (fun j av hj => ⟨_, rfl, (hown.lt g rfl).2, ?_⟩), h.bel⟩
    exact hown.cells (g := g) rfl j av hj
set_option maxRecDepth 100000 in
set_option maxHeartbeats 1000000 in
theorem lists_any (S : Stt σ) (hS : Steady S) (ex : Nat → Prop) (A : Option Addr) (n c : Nat) (l : List (Int × Int)) (w : World) (hn : n ≤ 1000) (hex : ∀ g, ex g → g < w.heap.size) (hrow : ∀ g, S.row = some g → ex g) (hl : On w A n l) :
    Calls Tryz.prog 24 #[.slice A n c] w fun e w' => ∃ A' c', e = .returned (.slice A' n c') ∧ n ≤ c' ∧ IsArs Tryz.prog S (fun _ => intL) 0 ex w' A' n (l.map oneF) ∧ Below w.heap.size w w' := by
  have HL := Lib.hid hl
  have HE := Lib.hid hex
  have HRw := Lib.hid hrow
  clear hl hex hrow
  obtain ⟨i0, hi, hz0, hz1, hz2⟩ := info_parts (show (Tryz.prog.info? 54).map (fun i => (i.zero, i.size, i.bytes)) = some (some .nilFunc, 1, 8) by kernel_rfl)
  have HI := Lib.hid (And.intro hi (And.intro hz0 (And.intro hz1 hz2)))
  clear hi hz0 hz1 hz2
  go_enter Tryz.func24, Tryz.ntmps24
  go_wp2
  go_loopw [3, 4] (fun v i wr => ∃ k : Nat, k ≤ n ∧ i = .int .i64 (k : Int) ∧ Hid (∃ avs R, LsJ S ex R w l k v avs wr)) (fun _ i _ => n - (intOf i).toNat)
  case atStart => exact ⟨0, Nat.zero_le _, rfl, Lib.hid ⟨[], fun _ => False, rfl, ⟨rfl, .inl ⟨rfl, rfl⟩⟩, Below.refl _ _, fun i h => h.elim, fun g hg => by simp [Value.ownBlock] at hg, fun j hj => by omega⟩⟩
  case round =>
    obtain ⟨k, hk, rfl, hh⟩ := hrel
    by_cases hlt : k < n
    · obtain ⟨avs, R, hj⟩ := hh.out
      obtain ⟨ad, rfl, hab, hcell⟩ := HL.out.2 (by omega)
      have hbel := hj.bel
      have HJ := Lib.hid hj
      have c0 : wr.cell? (ad.add (k * 2)) = some (.int .i64 (l.getD k (0, 0)).1) := (hbel.cell (by rw [add_block]; exact hab)).trans (hcell k hlt).1
      have c1 : wr.cell? ⟨(ad.add (k * 2)).block, (ad.add (k * 2)).off + 1, none⟩ = some (.int .i64 (l.getD k (0, 0)).2) := (hbel.cell (by show (ad.add (k * 2)).block < _; rw [add_block]; exact hab)).trans (hcell k hlt).2
      obtain ⟨⟨o1, o2⟩, ho⟩ : ∃ o, l.getD k (0, 0) = o := ⟨_, rfl⟩
      rw [ho] at c0 c1
      have HO := Lib.hid ho
      clear hcell hbel ho hj
      go_wp2_with fail
      refine (made_any S hS (fun i => ex i ∨ R i) o1 o2 wr (by rintro g (h | h) <;> first | exact Nat.lt_of_lt_of_le (HE.out g h) HJ.out.bel.size | exact HJ.out.lt g h) (fun g hg => .inl (HRw.out g hg))).mono ?_
      rintro e w1 ⟨r, rfl, h1, h2⟩
      have H1 := Lib.hid (And.intro h1 h2)
      have hzz := Nat.le_trans HJ.out.bel.size h2.size
      obtain ⟨K, f, cap, rfl, _⟩ := h1
      clear h2 c0 c1
      go_wp2_with (first
        | (at_builtin
           refine wpList_append_own_at _ rfl _ _ 60 rfl w.heap.size 54 i0 .nilFunc 1 8 Tryz.underlying60 HI.out.1 HI.out.2.1 HI.out.2.2.1 HI.out.2.2.2 rfl (by decide) u3 k avs rfl ((HJ.out.own.kept (grown_of_below H1.out.2 none) (own_or u3)).alloc _) ⟨w1.heap.size, 0, none⟩ 1 1 [.func (.func K) f cap] rfl rfl ?_ ?_ ?_ ?_ ?_ ?_
           · exact World.news_of_block (heap_alloc_new w1 _)
           · intro u hu
             rcases List.mem_singleton.1 hu with rfl
             rfl
           · simp only [maxLen]; omega
           · omega
           · exact Nat.le_trans hzz (by simp)
           intro v' w3 hown hgr _ hv
           have HS := Lib.hid (LsJ.step HJ.out H1.out.2 (by rw [HO.out]; exact H1.out.1) _ hown hgr hv)
           clear hown hgr hv))
      go_roundw
      case rel => exact ⟨k + 1, hlt, by go_num, Lib.hid ⟨_, HS.out⟩⟩
      case measure => simp [intOf]; omega
    · have := hh.out
      obtain rfl : k = n := by omega
      clear hlt hk
      go_wp2
      obtain ⟨avs, R, hj⟩ := hh.out
      obtain ⟨A', c', rfl, h1, h2, h3⟩ := LsJ.done HL.out.1 hj
      go_ret
      exact ⟨A', c', rfl, h1, h2, h3⟩
end Go.Proofs.YthokfopeddaiiaaGreatDoor
