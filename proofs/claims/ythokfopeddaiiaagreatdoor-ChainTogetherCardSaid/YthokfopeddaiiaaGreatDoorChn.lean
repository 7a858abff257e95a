/-
  Contracts: slices.Clone of interceptors of numbers, chain.Chain.
-/
import Derived.Test.YthokfopeddaiiaaGreatDoorOne
import Derived.Outline
import Derived.WalkSpells
import Derived.Laws.OwnMore
import Derived.Lib.LazyBuf
namespace Go.Proofs.YthokfopeddaiiaaGreatDoor
open Go.RowKit Go.Own Go.Own.Fn Go.Shelf
variable {σ : Type}
/-- The cells of a slice. -/
def Cl (w : World) (A : Option Addr) (n : Nat) (xs : List Value) : Prop :=
  xs.length = n ∧ (∀ u ∈ xs, u.oneCell' = true) ∧ ∀ (j : Nat) u, xs[j]? = some u → ∃ ad, A = some ad ∧ ad.block < w.heap.size ∧ w.cell? (ad.add j) = some u
theorem IsArs.cl {S : Stt σ} {ex : Nat → Prop} {w : World} {A : Option Addr} {n : Nat} {As : List ((Int → σ → Int × σ) → Int → σ → Int × σ)} (h : IsArs Tryz.prog S (fun _ => intL) 0 ex w A n As) :
    ∃ xs, Cl w A n xs ∧ ∀ (j : Nat) B, As[j]? = some B → ∃ av, xs[j]? = some av ∧ Arnd Tryz.prog S intL intL ex av B w := by
  obtain ⟨vs, hvs⟩ : ∃ vs : Nat → Value, ∀ (j : Nat) B, As[j]? = some B → ∃ ad, A = some ad ∧ ad.block < w.heap.size ∧ w.cell? (ad.add j) = some (vs j) ∧ Arnd Tryz.prog S intL intL ex (vs j) B w := by
    refine Classical.skolem.1 (show ∀ j : Nat, ∃ av : Value,  ∀ B, As[j]? = some B → ∃ ad, A = some ad ∧ ad.block < w.heap.size ∧ w.cell? (ad.add j) = some av ∧ Arnd Tryz.prog S intL intL ex av B w from fun j => ?_)
    rcases h' : As[j]? with _ | B
    · exact ⟨undef, fun B hB => by cases hB⟩
    · obtain ⟨ad, av, h1, h2, h3, h4⟩ := h.2 j B h'
      exact ⟨av, fun B' hB => by injection hB with hB; subst hB; exact ⟨ad, h1, h2, h3, h4⟩⟩
  have hl := h.1
  have each : ∀ j : Nat, j < n → ∃ B, As[j]? = some B := fun j hj => ⟨_, List.getElem?_eq_getElem (by omega)⟩
  refine ⟨(List.range n).map vs, ⟨by simp, ?_, ?_⟩, ?_⟩
  · intro u hu
    simp at hu
    obtain ⟨j, hj, rfl⟩ := hu
    obtain ⟨B, hB⟩ := each j hj
    obtain ⟨ad, h1, h2, h3, K, f, c, e, _⟩ := hvs j B hB
    rw [e]; rfl
  · intro j u hu
    have hj : j < n := by have := (List.getElem?_eq_some_iff.1 hu).1; simpa using this
    simp [hj] at hu
    obtain ⟨B, hB⟩ := each j hj
    obtain ⟨ad, h1, h2, h3, _⟩ := hvs j B hB
    exact ⟨ad, h1, h2, hu ▸ h3⟩
  · intro j B hB
    have hj : j < n := by have := (List.getElem?_eq_some_iff.1 hB).1; omega
    obtain ⟨ad, h1, h2, h3, h4⟩ := hvs j B hB
    exact ⟨vs j, by simp [hj], h4⟩
theorem IsArs.of {S : Stt σ} {ex : Nat → Prop} {w w' : World} {A : Option Addr} {n : Nat} {As : List ((Int → σ → Int × σ) → Int → σ → Int × σ)} {xs : List Value} (hl : As.length = n) (h : ∀ (j : Nat) B, As[j]? = some B → ∃ av, xs[j]? = some av ∧ Arnd Tryz.prog S intL intL ex av B w)
    (hc : Cl w' A n xs) (hk : Kx ex w w') : IsArs Tryz.prog S (fun _ => intL) 0 ex w' A n As := by
  refine ⟨hl, fun j B hB => ?_⟩
  obtain ⟨av, h1, h2⟩ := h j B hB
  obtain ⟨ad, e1, e2, e3⟩ := hc.2.2 j av h1
  exact ⟨ad, av, e1, e2, e3, h2.kx hk⟩
theorem Cl.below {w w' : World} {A : Option Addr} {n : Nat} {xs : List Value} (h : Cl w A n xs) (hb : Below w.heap.size w w') : Cl w' A n xs :=
  ⟨h.1, h.2.1, fun j u hu => by
    obtain ⟨ad, e1, e2, e3⟩ := h.2.2 j u hu
    exact ⟨ad, e1, Nat.lt_of_lt_of_le e2 hb.size, (hb.cell (by rw [add_block]; exact e2)).trans e3⟩⟩
set_option maxRecDepth 100000 in
theorem clone_i (A : Option Addr) (n c : Nat) (xs : List Value) (w : World) (hn : n ≤ 100000) (hx : Cl w A n xs) :
    Calls Tryz.prog 46 #[.slice A n c] w fun e w' => ∃ A' c', e = .returned (.slice A' n c') ∧ Cl w' A' n xs ∧ (∀ ad, 0 < n → A' = some ad → w.heap.size ≤ ad.block) ∧ Below w.heap.size w w' := by
  have HX := Lib.hid hx
  have HN := Lib.hid hn
  clear hx hn
  rcases A with _ | ad
  · obtain rfl : n = 0 := by
      rcases Nat.eq_zero_or_pos n with h | h
      · exact h
      · have h1 := HX.out.1
        obtain ⟨ad, e, _⟩ := HX.out.2.2 0 (xs[0]'(by omega)) (List.getElem?_eq_getElem (by omega))
        cases e
    have hq : ∀ W, (binOp .eql 60 (.slice none 0 c) (.slice none 0 0)).run Tryz.prog W = .ok (.bool true) W := fun W => Go.run_eql_slice_nil W _ _ _ _ _ Tryz.underlying60
    go_enter Tryz.func46, Tryz.ntmps46
    go_wp2
    go_ret
    exact ⟨none, 0, rfl, HX.out, fun ad h => absurd h (by omega), Below.refl _ _⟩
  · obtain ⟨i0, hi, hz0, hz1, hz2⟩ := info_parts (show (Tryz.prog.info? 54).map (fun i => (i.zero, i.size, i.bytes)) = some (some .nilFunc, 1, 8) by kernel_rfl)
    have HI := Lib.hid (And.intro hi (And.intro hz0 (And.intro hz1 hz2)))
    clear hi hz0 hz1 hz2
    have hq : ∀ W, (binOp .eql 60 (.slice (some ad) n c) (.slice none 0 0)).run Tryz.prog W = .ok (.bool false) W := fun W => Go.run_eql_slice_nil W _ _ _ _ _ Tryz.underlying60
    go_enter Tryz.func46, Tryz.ntmps46
    go_wp2_with (first
        | (at_builtin
           refine wpList_append_own_at _ rfl _ _ 60 rfl w.heap.size 54 i0 .nilFunc 1 8 Tryz.underlying60 HI.out.1 HI.out.2.1 HI.out.2.2.1 HI.out.2.2.2 rfl (by decide) (.slice (some ⟨w.heap.size, 0, none⟩) 0 0) 0 [] rfl (World.ownsRow_lit w #[] 0 (Nat.le_refl _) (by decide) rfl) ad n c xs rfl ?_ ?_ ?_ ?_ ?_ ?_ ?_
           · simpa using HX.out.1
           · intro j u hu
             obtain ⟨ad', e, h1, h2⟩ := HX.out.2.2 j u hu
             injection e with e
             subst e
             exact (World.cell?_alloc_lt w _ _ (by rw [add_block]; exact h1)).trans h2
           · exact HX.out.2.1
           · have := HN.out; simp only [maxLen]; omega
           · have := HN.out; omega
           · simp
           intro v' w3 hown hgr _ hv
           have HS := Lib.hid (And.intro hown hgr)
           clear hown hgr hv))
    have hown := HS.out.1
    rw [Nat.zero_add, List.nil_append] at hown
    have hb : Below w.heap.size w w3 := by
      have h1 : Below w.heap.size w (w.alloc (.cells #[] 54)) := (Below.refl _ _).alloc (Nat.le_refl _) _
      exact h1.grown HS.out.2 (by simp) (fun g hg => by simp [Value.ownBlock] at hg; omega)
    have HR := Lib.hid (And.intro hown hb)
    clear HS hown hb
    obtain ⟨A', c', rfl, hcl⟩ : ∃ A' c', v' = .slice A' n c' ∧ Cl w3 A' n xs ∧ ∀ ad, 0 < n → A' = some ad → w.heap.size ≤ ad.block := by
      rcases HR.out.1.2 with ⟨rfl, h0⟩ | ⟨g, cap, cur, rfl, _⟩
      · exact ⟨none, 0, by rw [h0], ⟨HX.out.1, HX.out.2.1, fun j u hu => by
          have := (List.getElem?_eq_some_iff.1 hu).1
          have := HX.out.1
          omega⟩, fun ad _ e => by cases e⟩
      · exact ⟨_, cap, rfl, ⟨HX.out.1, HX.out.2.1, fun j u hu => ⟨_, rfl, (HR.out.1.lt g rfl).2, HR.out.1.cells (g := g) rfl j u hu⟩⟩, fun ad _ e => by injection e with e; subst e; exact (HR.out.1.lt g rfl).1⟩
    have HC := Lib.hid hcl
    clear hcl
    go_wp2
    go_ret
    exact ⟨A', c', rfl, HC.out.1, HC.out.2, HR.out.2⟩
set_option maxRecDepth 100000 in
theorem chain1_i (S : Stt σ) (hS : Steady S) (ex : Nat → Prop) (b : Nat) (A : Option Addr) (n c : Nat) (As : List ((Int → σ → Int × σ) → Int → σ → Int × σ)) (w0 : World) (hn : n ≤ 1000) (hb : Blk w0 b 60 #[.slice A n c]) (hx : ¬ ex b) (hrow : ∀ g, S.row = some g → ex g) (hrl : ∀ g, S.row = some g → g < w0.heap.size)
    (hA : ∃ xs, Cl w0 A n xs ∧ (∀ ad, 0 < n → A = some ad → ¬ ex ad.block) ∧ As.length = n ∧ ∀ (j : Nat) B, As[j]? = some B → ∃ av, xs[j]? = some av ∧ Arnd Tryz.prog S intL intL ex av B w0) :
    Arnd Tryz.prog S intL intL ex (.func (.func 47) #[] #[.pointer (some ⟨b, 0, none⟩)]) (wrapS As) w0 := by
  refine ⟨47, #[], #[.pointer (some ⟨b, 0, none⟩)], rfl, enters_of Tryz.func47 (by kernel_rfl) rfl, fun w s xv x nv F exF hrF hw hF hs hxv => ?_⟩
  obtain rfl : xv = .int .i64 x := hxv
  show Calls Tryz.prog 47 #[.int .i64 x, nv, .pointer (some ⟨b, 0, none⟩)] w _
  obtain ⟨xs, hcl, hnx, hAl, hAv⟩ := hA
  have hcw : Cl w A n xs := ⟨hcl.1, hcl.2.1, fun j u hu => by
    obtain ⟨ad, e1, e2, e3⟩ := hcl.2.2 j u hu
    have hj : 0 < n := by have := (List.getElem?_eq_some_iff.1 hu).1; have := hcl.1; omega
    have hne := hnx ad hj e1
    refine ⟨ad, e1, Nat.lt_of_lt_of_le e2 hw.size, ?_⟩
    rw [← e3]
    exact World.cell?_of_block (by rw [add_block]; exact hw.block _ e2 hne)⟩
  have c6 : w.cell? ⟨b, 0, none⟩ = some (.slice A n c) := (Blk.kx hb hw hx).cell 0
  have hrow2 : ∀ g, S.row = some g → (ex g ∧ exF g) ∧ g < w.heap.size := fun g hg => ⟨⟨hrow g hg, hrF g hg⟩, Nat.lt_of_lt_of_le (hrl g hg) hw.size⟩
  have HA : Hid (IsArs Tryz.prog S (fun _ => intL) 0 (fun i => (ex i ∧ exF i) ∧ i < w.heap.size) w A n As) := Lib.hid (IsArs.of hAl (fun j B hB => by
    obtain ⟨av, h1, h2⟩ := hAv j B hB
    exact ⟨av, h1, (h2.kx hw).letbe fun i _ h => h.1.1⟩) hcw (Kx.refl _ _))
  have HF := Lib.hid (hF.letbe (ex' := fun i => (ex i ∧ exF i) ∧ i < w.heap.size) fun i _ h => h.1.2)
  have HS := Lib.hid hs
  have HW := Lib.hid (wrap_i S (fun _ => intL) 0 (fun i => (ex i ∧ exF i) ∧ i < w.heap.size) nv F A n c As w hrow2 (fun g h => h.2) (by omega) HF.out HA.out)
  obtain ⟨K, first, cap, rfl, hE, _⟩ := hF
  clear hcl hnx hAv hcw hw hs HF HA hb hx
  go_enter Tryz.func47, Tryz.ntmps47
  go_wp2_with fail
  refine HW.out.mono ?_
  rintro e w1 ⟨r, rfl, h1, h2⟩
  have HR := Lib.hid (And.intro h1 h2)
  obtain ⟨K, first, cap, rfl, hE, hc⟩ := h1
  have H2 := Lib.hid (hc w1 s (.int .i64 x) x (Kx.refl _ _) (hS _ _ _ HR.out.2 HS.out) rfl)
  have hE : ∀ args w, (callFunc K args).run Tryz.prog w = .ok (.enter K args) w := hE
  clear hc h2
  go_wp2_with fail
  refine H2.out.mono ?_
  rintro e w2 ⟨yv, rfl, h1, h2, h3⟩
  have HR2 := Lib.hid (And.intro h1 (And.intro h2 (grown_trans (grown_of_below HR.out.2 _) h3)))
  clear h1 h2 h3
  go_wp2
  go_ret
  exact ⟨yv, rfl, HR2.out⟩
set_option maxRecDepth 100000 in
theorem chain_i (S : Stt σ) (hS : Steady S) (ex : Nat → Prop) (A : Option Addr) (n c : Nat) (As : List ((Int → σ → Int × σ) → Int → σ → Int × σ)) (w : World) (hn : n ≤ 1000) (hex : ∀ g, ex g → g < w.heap.size) (hrow : ∀ g, S.row = some g → ex g) (hA : IsArs Tryz.prog S (fun _ => intL) 0 ex w A n As) :
    Calls Tryz.prog 26 #[.slice A n c] w fun e w' => ∃ r, e = .returned r ∧ Arnd Tryz.prog S intL intL ex r (wrapS As) w' ∧ Below w.heap.size w w' := by
  obtain ⟨xs, hcl, hav⟩ := IsArs.cl hA
  have hAl := hA.1
  have HC := Lib.hid (clone_i A n c xs (w.alloc (.cells #[.slice A n c] 60)) (by omega) (hcl.below ((Below.refl _ _).alloc (Nat.le_refl _) _)))
  have HV := Lib.hid hav
  have HB0 : Hid (Below w.heap.size w (w.alloc (.cells #[.slice A n c] 60))) := Lib.hid ((Below.refl _ _).alloc (Nat.le_refl _) _)
  have HK0 := Lib.hid (Blk.new w 60 #[.slice A n c])
  have HX := Lib.hid hex
  have HL := Lib.hid hAl
  clear hcl hav hA hex hAl
  go_enter Tryz.func26, Tryz.ntmps26
  go_wp2_with fail
  refine HC.out.mono ?_
  rintro e w1 ⟨A', c', rfl, h1, h4, h2⟩
  have hK1 : Blk w1 w.heap.size 60 #[.slice A n c] := HK0.out.below h2 HK0.out.lt
  have HB1 := Lib.hid (HB0.out.trans (h2.mono HB0.out.size))
  have HC1 := Lib.hid (And.intro h1 (And.intro h4 h2))
  have q1 := hK1.frozen 0
  have q2 := hK1.lt
  have q3 := hK1.cell 0
  have HK1 := Lib.hid hK1
  clear h1 h2 h4 hK1
  go_wp2
  go_ret
  have hb3 : Below w.heap.size w (w1.setCell ⟨w.heap.size, 0, none⟩ (.slice A' n c')) := HB1.out.setCell (Nat.le_refl _) _
  refine ⟨_, rfl, chain1_i S hS ex w.heap.size A' n c' As _ hn (HK1.out.put 0 _) (fun h => Nat.lt_irrefl _ (HX.out _ h)) hrow (fun g hg => Nat.lt_of_lt_of_le (HX.out g (hrow g hg)) hb3.size) ⟨xs, ?_, ?_, HL.out, fun j B hB => ?_⟩, hb3⟩
  · refine ⟨HC1.out.1.1, HC1.out.1.2.1, fun j u hu => ?_⟩
    obtain ⟨ad, e1, e2, e3⟩ := HC1.out.1.2.2 j u hu
    have h0 : 0 < n := by have := (List.getElem?_eq_some_iff.1 hu).1; have := HC1.out.1.1; omega
    have := HC1.out.2.1 ad h0 e1
    simp at this
    exact ⟨ad, e1, by simpa using e2, (World.cell?_setCell_other _ _ _ _ (fun e => by have := congrArg Addr.block e; rw [add_block] at this; simp at this; omega)).trans e3⟩
  · intro ad h0 e hx
    have := HC1.out.2.1 ad h0 e
    have := HX.out _ hx
    simp at *
    omega
  · obtain ⟨av, e1, e2⟩ := HV.out j B hB
    exact ⟨av, e1, e2.kx (Kx.below hb3)⟩
end Go.Proofs.YthokfopeddaiiaaGreatDoor
