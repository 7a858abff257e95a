/-
  ChainOrder: its walk.
-/
import Derived.Test.YthokfopeddaiiaaGreatDoorOrl
import Derived.LoopTactic
import Derived.Deep.RegionWith
namespace Go.Proofs.YthokfopeddaiiaaGreatDoor
open Go.RowKit Go.Own Go.Own.Fn Go.Shelf
attribute [local go_sem] Oper.semAt_some
/-- While rules and what is wanted are made. -/
structure OrJ (w1 : World) (tags : Bool) (k : Nat) (lv wv : Value) (wr : World) : Prop where
  own : Rw wr w1.heap.size lv k ((signs36.take k).map (ordR tags))
  want : Hw wr w1.heap.size wv (ordW tags (signs36.take k))
  apart : ∀ g, lv.ownBlock = some g → wv.ownBlock ≠ some g
  bel : Below w1.heap.size w1 wr
theorem take_sign (k : Nat) (hk : k < 36) : signs36.take (k + 1) = signs36.take k ++ [signs36.getD k 0] := by
  have e : signs36.getD k 0 = signs36[k]'(show k < signs36.length from hk) := by simp [List.getD, show k < signs36.length from hk]
  rw [e, List.take_succ_eq_append_getElem (show k < signs36.length from hk)]
theorem ordW_len (tags : Bool) (k : Nat) (hk : k ≤ 36) : (ordW tags (signs36.take k)).length = k := by
  have : (signs36.take k).length = k := by rw [List.length_take]; exact Nat.min_eq_left hk
  cases tags
  · show ((signs36.take k).map ordH).length = k
    rw [List.length_map, this]
  · show (((signs36.take k).map ordH).reverse).length = k
    rw [List.length_reverse, List.length_map, this]
theorem infoR : ∃ i, Tryz.prog.info? 46 = some i ∧ i.zero = some (.agg #[.string ⟨#[]⟩, .string ⟨#[]⟩, .string ⟨#[]⟩, .int .i64 0, .int .i64 0, .int .i64 0]) ∧ i.size = 6 ∧ i.bytes = 72 :=
  info_parts (show (Tryz.prog.info? 46).map (fun i => (i.zero, i.size, i.bytes)) = some (some (.agg #[.string ⟨#[]⟩, .string ⟨#[]⟩, .string ⟨#[]⟩, .int .i64 0, .int .i64 0, .int .i64 0]), 6, 72) by kernel_rfl)
/-- A rule more. -/
theorem OrJ.rule {w1 wr w3 : World} {tags : Bool} {k : Nat} {lv lv' wv : Value} {o : Obj} (h : OrJ w1 tags k lv wv wr) (hk : k < 36)
    (hown : w3.ownsRow w1.heap.size 46 6 lv' (k + 1) (rcells ((signs36.take k).map (ordR tags)) ++ rcells [ordR tags (signs36.getD k 0)])) (hg : (wr.alloc o).grownBy w3 lv.ownBlock) (hv : lv'.ownBlock = lv.ownBlock ∨ lv'.ownBlock = some (wr.alloc o).heap.size) :
    Rw w3 w1.heap.size lv' (k + 1) ((signs36.take (k + 1)).map (ordR tags)) ∧ Hw w3 w1.heap.size wv (ordW tags (signs36.take k)) ∧ (∀ g, lv'.ownBlock = some g → wv.ownBlock ≠ some g) ∧ Below w1.heap.size w1 w3 := by
  have hb : Below w1.heap.size w1 (wr.alloc o) := h.bel.alloc h.bel.size _
  have hw : Hw (wr.alloc o) w1.heap.size wv (ordW tags (signs36.take k)) := h.want.below ((Below.refl _ _).alloc (Nat.le_refl _) _)
  refine ⟨?_, hw.grown hg ?_, ?_, hb.grown hg (by have := h.bel.size; simp; omega) fun g e => (World.ownsRow.lt h.own g e).1⟩
  · unfold Rw
    rw [take_sign k hk, List.map_append]
    have : rcells ((signs36.take k).map (ordR tags) ++ [signs36.getD k 0].map (ordR tags)) = rcells ((signs36.take k).map (ordR tags)) ++ rcells [ordR tags (signs36.getD k 0)] := by simp [rcells]
    rw [this]
    exact hown
  · rcases hl : lv.ownBlock with _ | g
    · exact own_or wv
    · exact .inr fun e => h.apart g hl e
  · intro g e e2
    rcases hv with hv | hv
    · exact h.apart g (hv ▸ e) e2
    · have := (hw.lt g e2).2
      rw [hv] at e
      injection e with e
      omega
abbrev hdrB (c : UInt8) : Obj := .cells #[.string ⟨#[104]⟩, .string ⟨#[c]⟩, .bool false] 34
theorem lit_hw (w : World) (c : UInt8) : Hw (w.alloc (hdrB c)) w.heap.size (.slice (some ⟨w.heap.size, 0, none⟩) 1 1) [ordH c] :=
  World.ownsRow_lit w #[.string ⟨#[104]⟩, .string ⟨#[c]⟩, .bool false] 1 (Nat.le_refl _) (by decide) rfl
theorem ordW_true (k : Nat) (hk : k < 36) : [ordH (signs36.getD k 0)] ++ ordW true (signs36.take k) = ordW true (signs36.take (k + 1)) := by
  rw [take_sign k hk]; simp [ordW]
theorem ordW_false (k : Nat) (hk : k < 36) : ordW false (signs36.take k) ++ [ordH (signs36.getD k 0)] = ordW false (signs36.take (k + 1)) := by
  rw [take_sign k hk]; simp [ordW]
/-- A header more is wanted. -/
theorem OrJ.more {w1 w3 w4 : World} {tags : Bool} {k : Nat} {lv wv v v' : Value} {c : UInt8} (h : Rw w3 w1.heap.size lv (k + 1) ((signs36.take (k + 1)).map (ordR tags)) ∧ Hw w3 w1.heap.size wv (ordW tags (signs36.take k)) ∧ (∀ g, lv.ownBlock = some g → wv.ownBlock ≠ some g) ∧ Below w1.heap.size w1 w3)
    (hown : Hw w4 w1.heap.size v' (ordW tags (signs36.take (k + 1)))) (hg : (w3.alloc (hdrB c)).grownBy w4 v.ownBlock) (hv : v'.ownBlock = v.ownBlock ∨ v'.ownBlock = some (w3.alloc (hdrB c)).heap.size) (hn : v.ownBlock = wv.ownBlock ∨ v.ownBlock = some w3.heap.size) : OrJ w1 tags (k + 1) lv v' w4 := by
  obtain ⟨h1, h2, h3, h4⟩ := h
  have hlt : ∀ g, lv.ownBlock = some g → w1.heap.size ≤ g ∧ g < w3.heap.size := World.ownsRow.lt h1
  have hap : ∀ g, lv.ownBlock = some g → v.ownBlock ≠ some g := by
    intro g e e2
    rcases hn with hn | hn
    · exact h3 g e (hn ▸ e2)
    · rw [hn] at e2; have := (hlt g e).2; injection e2 with e2; omega
  have hz : (w3.alloc (hdrB c)).heap.size = w3.heap.size + 1 := by simp
  refine ⟨?_, hown, ?_, (h4.alloc h4.size _).grown hg (by have := h4.size; rw [hz]; omega) ?_⟩
  · refine (h1.alloc (hdrB c)).kept hg ?_
    rcases hl : lv.ownBlock with _ | g
    · exact .inl rfl
    · exact .inr fun e => hap g hl e.symm
  · intro g e e2
    rcases hv with hv | hv
    · exact hap g e (hv ▸ e2)
    · rw [hv, hz] at e2; have := (hlt g e).2; injection e2 with e2; omega
  · intro g e
    rcases hn with hn | hn
    · rw [hn] at e; exact (h2.lt g e).1
    · rw [hn] at e; injection e with e; have := h4.size; omega
theorem Rw.form {w : World} {base n : Nat} {v : Value} {l : List RuleV} (h : Rw w base v n l) : ∃ A c, v = .slice A n c ∧ n ≤ c := by
  rcases h.2 with ⟨e, h0⟩ | ⟨g, cap, cur, e, _, _, hnc, _⟩
  · exact ⟨none, 0, by rw [e, h0], by omega⟩
  · exact ⟨_, cap, e, hnc⟩
theorem ord_fits (tags : Bool) (n : Nat) : ∀ r ∈ (signs36.take n).map (ordR tags), RuleFit r ∧ r.path = ⟨#[]⟩ := by
  intro r hr
  obtain ⟨c, hc, rfl⟩ := List.mem_map.1 hr
  obtain ⟨h1, h2⟩ := signs_ok c (List.mem_of_mem_take hc)
  exact ⟨ord_fit tags c h1 h2, rfl⟩
def ordC : CallV := ⟨⟨#[47, 97]⟩, [], []⟩
/-- Apply at the rules of the signs. -/
theorem ord_apply (tags : Bool) (N : Nat) (hN : N < 36) (A : Option Addr) (c : Nat) (base : Nat) (w : World) (he : EnvC w) (h : Rw w base (.slice A N c) N ((signs36.take N).map (ordR tags))) :
    Calls Tryz.prog 15 #[.slice A N c, .agg #[.string ⟨#[47, 97]⟩, .slice none 0 0, .slice none 0 0], .func (.func 18) #[] #[]] w fun e w' =>
      ∃ A9 c9 A8 c8, e = .returned (.tuple #[.agg #[.int .i64 0, .string ⟨#[]⟩, .slice A9 N c9, .slice A8 0 c8], .nilIface]) ∧ Hid (Hr w' A9 N (ordW tags (signs36.take N)) ∧ Below w.heap.size w w') := by
  refine (apply_fit noS noS_keeps 0 noB A none none N c 0 0 0 0 ((signs36.take N).map (ordR tags)) ordC _ _ () w (by omega) (by omega) (fun g h => h.elim) (fun g h => by cases h) he h.rs (ord_fits tags N) ⟨rfl, fun j u hu => by simp [ordC, hcells] at hu⟩ ⟨rfl, fun h => absurd h (by omega)⟩ (by simp [ordC]) (by simp [ordC]) (back_fnc (0 + N) (by omega) w) trivial).mono ?_
  rintro e w4 ⟨yv, rfl, g1, _, g3⟩
  rw [ord_all tags _ ordC rfl] at g1
  obtain ⟨hv, bv, rfl, h1, h2, _⟩ := g1
  simp only at h1 h2
  obtain ⟨A9, c9, rfl, _⟩ := h1.form
  obtain ⟨A8, c8, rfl⟩ := owSlc h2
  have hl := ordW_len tags N (by omega)
  rw [hl] at h1 ⊢
  exact ⟨A9, c9, A8, c8, rfl, Lib.hid ⟨h1.hr, ⟨g3.os, g3.tape, g3.output, g3.size, fun i hi => g3.block i hi (fun e => by cases e)⟩⟩⟩
set_option maxHeartbeats 4000000 in
set_option maxRecDepth 100000 in
theorem chainOrder_true (n : Int) (w : World) (he : EnvC w) : Calls Tryz.prog 4 #[.int .i64 n, .bool true] w fun e w' => e = .returned (.bool true) ∧ Below w.heap.size w w' := by
  have HF := Lib.hid (first_any w he)
  have HE := Lib.hid he
  obtain ⟨N, hN, hn⟩ := and31 n
  have hcut : ∀ (k : Nat) (W : World), k < 36 → (Instr.slice 9 (.string ⟨#[48, 49, 50, 51, 52, 53, 54, 55, 56, 57, 97, 98, 99, 100, 101, 102, 103, 104, 105, 106, 107, 108, 109, 110, 111, 112, 113, 114, 115, 116, 117, 118, 119, 120, 121, 122]⟩) (some (.int .i64 (k : Int))) (some (.int .i64 ((k : Int) + 1))) none).run Tryz.prog W = .ok (.string ⟨#[signs36.getD k 0]⟩) W := fun k W hk => run_sign k hk W
  have HC := Lib.hid hcut
  clear he hcut
  go_enter Tryz.func4, Tryz.ntmps4
  go_wp2_with fail
  refine HF.out.mono ?_
  rintro e w1 ⟨rfl, g1⟩
  have HB1 := Lib.hid g1
  clear g1
  go_wp2_with fail
  go_loopw [6, 7, 8] (fun lv wv i wr => ∃ k : Nat, k ≤ N ∧ i = .int .i64 (k : Int) ∧ Hid (OrJ w1 true k lv wv wr)) (fun _ _ i _ => N - (intOf i).toNat)
  case atStart => exact ⟨0, Nat.zero_le _, rfl, Lib.hid ⟨⟨rfl, .inl ⟨rfl, rfl⟩⟩, Hw.nil _ _, fun g e => by simp [Value.ownBlock] at e, Below.refl _ _⟩⟩
  case round =>
    obtain ⟨k, hk, rfl, hh⟩ := hrel
    by_cases hlt : k < N
    · have hci := fun W => HC.out k W (by omega)
      obtain ⟨c, hc⟩ : ∃ c, signs36.getD k 0 = c := ⟨_, rfl⟩
      rw [hc] at hci
      have HCC := Lib.hid hc
      have HK36 := Lib.hid (show k < 36 by omega)
      obtain ⟨i0, hi, hz0, hz1, hz2⟩ := infoR
      have HI := Lib.hid (And.intro hi (And.intro hz0 (And.intro hz1 hz2)))
      clear hc hi hz0 hz1 hz2
      obtain ⟨A7, c7, e7, hc7, _⟩ := hh.out.want.form
      rw [ordW_len true k (by omega)] at e7 hc7
      subst e7
      go_wp2_with (first
        | (at_builtin
           refine wpList_append_own_at _ rfl (.tmp 26) (.tmp 30) 22 rfl w1.heap.size 46 i0 (.agg #[.string ⟨#[]⟩, .string ⟨#[]⟩, .string ⟨#[]⟩, .int .i64 0, .int .i64 0, .int .i64 0]) 6 72 Tryz.underlying22 HI.out.1 HI.out.2.1 HI.out.2.2.1 HI.out.2.2.2 rfl (by decide) u6 k _ rfl (hh.out.own.alloc _) ⟨wr.heap.size, 0, none⟩ 1 1 (rcells [ordR true c]) rfl rfl ?_ ?_ ?_ ?_ ?_ ?_
           · exact World.news_of_block (heap_alloc_new wr _)
           · intro u hu
             simp [rcells, RuleV.cells, ordR] at hu
             rcases hu with rfl | rfl | rfl | rfl | rfl | rfl <;> rfl
           · simp only [maxLen]; omega
           · omega
           · have := hh.out.bel.size; simp; omega
           intro lv2 w3 hown hg _ hv
           have H3 := Lib.hid (hh.out.rule HK36.out (by rw [HCC.out]; exact hown) hg hv)
           clear hown hg hv)
        | (at_builtin
           refine wpList_app_hg _ rfl (.tmp 35) (.tmp 36) rfl w1.heap.size (.slice (some ⟨w3.heap.size, 0, none⟩) 1 1) [ordH c] rfl ((lit_hw w3 c).base H3.out.2.2.2.size) A7 k c7 _ rfl (Hw.hr (H3.out.2.1.below ((Below.refl _ _).alloc (Nat.le_refl _) _))) ?_ ?_ ?_
           · simp; omega
           · have := H3.out.2.2.2.size; simp; omega
           intro wv2 w4 hown hg hv
           have H4 := Lib.hid (OrJ.more (v := .slice (some ⟨w3.heap.size, 0, none⟩) 1 1) H3.out (by rw [← ordW_true k HK36.out, HCC.out]; exact hown) hg hv (.inr rfl))
           clear hown hg hv))
      go_roundw
      case rel => exact ⟨k + 1, hlt, by go_num, H4⟩
      case measure => simp [intOf]; omega
    · obtain rfl : k = N := by omega
      obtain ⟨A6, c6, e6, _⟩ := hh.out.own.form
      subst e6
      obtain ⟨A7, c7, e7, _⟩ := hh.out.want.form
      rw [ordW_len true k (by omega)] at e7
      subst e7
      have HA := Lib.hid (ord_apply true k (by omega) A6 c6 _ wr (HE.out.below (HB1.out.trans (hh.out.bel.mono HB1.out.size))) hh.out.own)
      go_wp2_with fail
      refine HA.out.mono ?_
      rintro e w4 ⟨A9, c9, A8, c8, rfl, g4⟩
      have hb5 : Below wr.heap.size wr (w4.alloc (.cells #[.int .i64 0, .string ⟨#[]⟩, .slice A9 k c9, .slice A8 0 c8] 39)) := g4.out.2.alloc g4.out.2.size _
      have HS := Lib.hid (sameHeaders_yes A9 A7 k c9 c7 (ordW true (signs36.take k)) _ (by omega) (g4.out.1.below ((Below.refl _ _).alloc (Nat.le_refl _) _)) ((Hw.hr hh.out.want).below hb5))
      have HB5 := Lib.hid (hh.out.bel.trans (hb5.mono hh.out.bel.size))
      clear hb5 HA
      go_wp2_with fail
      refine HS.out.mono ?_
      rintro e w6 ⟨rfl, g6⟩
      have HB6 := Lib.hid (HB5.out.trans (g6.mono HB5.out.size))
      clear g6
      go_wp2
      go_ret
      exact ⟨rfl, HB1.out.trans (HB6.out.mono HB1.out.size)⟩
set_option maxHeartbeats 4000000 in
set_option maxRecDepth 100000 in
theorem chainOrder_false (n : Int) (w : World) (he : EnvC w) : Calls Tryz.prog 4 #[.int .i64 n, .bool false] w fun e w' => e = .returned (.bool true) ∧ Below w.heap.size w w' := by
  have HF := Lib.hid (first_any w he)
  have HE := Lib.hid he
  obtain ⟨N, hN, hn⟩ := and31 n
  have hcut : ∀ (k : Nat) (W : World), k < 36 → (Instr.slice 9 (.string ⟨#[48, 49, 50, 51, 52, 53, 54, 55, 56, 57, 97, 98, 99, 100, 101, 102, 103, 104, 105, 106, 107, 108, 109, 110, 111, 112, 113, 114, 115, 116, 117, 118, 119, 120, 121, 122]⟩) (some (.int .i64 (k : Int))) (some (.int .i64 ((k : Int) + 1))) none).run Tryz.prog W = .ok (.string ⟨#[signs36.getD k 0]⟩) W := fun k W hk => run_sign k hk W
  have HC := Lib.hid hcut
  clear he hcut
  go_enter Tryz.func4, Tryz.ntmps4
  go_wp2_with fail
  refine HF.out.mono ?_
  rintro e w1 ⟨rfl, g1⟩
  have HB1 := Lib.hid g1
  clear g1
  go_wp2_with fail
  go_loopw [6, 7, 8] (fun lv wv i wr => ∃ k : Nat, k ≤ N ∧ i = .int .i64 (k : Int) ∧ Hid (OrJ w1 false k lv wv wr)) (fun _ _ i _ => N - (intOf i).toNat)
  case atStart => exact ⟨0, Nat.zero_le _, rfl, Lib.hid ⟨⟨rfl, .inl ⟨rfl, rfl⟩⟩, Hw.nil _ _, fun g e => by simp [Value.ownBlock] at e, Below.refl _ _⟩⟩
  case round =>
    obtain ⟨k, hk, rfl, hh⟩ := hrel
    by_cases hlt : k < N
    · have hci := fun W => HC.out k W (by omega)
      obtain ⟨c, hc⟩ : ∃ c, signs36.getD k 0 = c := ⟨_, rfl⟩
      rw [hc] at hci
      have HCC := Lib.hid hc
      have HK36 := Lib.hid (show k < 36 by omega)
      obtain ⟨i0, hi, hz0, hz1, hz2⟩ := infoR
      have HI := Lib.hid (And.intro hi (And.intro hz0 (And.intro hz1 hz2)))
      clear hc hi hz0 hz1 hz2
      obtain ⟨A7, c7, e7, hc7, _⟩ := hh.out.want.form
      rw [ordW_len false k (by omega)] at e7 hc7
      subst e7
      go_wp2_with (first
        | (at_builtin
           refine wpList_append_own_at _ rfl (.tmp 26) (.tmp 30) 22 rfl w1.heap.size 46 i0 (.agg #[.string ⟨#[]⟩, .string ⟨#[]⟩, .string ⟨#[]⟩, .int .i64 0, .int .i64 0, .int .i64 0]) 6 72 Tryz.underlying22 HI.out.1 HI.out.2.1 HI.out.2.2.1 HI.out.2.2.2 rfl (by decide) u6 k _ rfl (hh.out.own.alloc _) ⟨wr.heap.size, 0, none⟩ 1 1 (rcells [ordR false c]) rfl rfl ?_ ?_ ?_ ?_ ?_ ?_
           · exact World.news_of_block (heap_alloc_new wr _)
           · intro u hu
             simp [rcells, RuleV.cells, ordR] at hu
             rcases hu with rfl | rfl | rfl | rfl | rfl | rfl <;> rfl
           · simp only [maxLen]; omega
           · omega
           · have := hh.out.bel.size; simp; omega
           intro lv2 w3 hown hg _ hv
           have H3 := Lib.hid (hh.out.rule HK36.out (by rw [HCC.out]; exact hown) hg hv)
           clear hown hg hv)
        | (at_builtin
           refine wpList_app_hg _ rfl (.tmp 38) (.tmp 41) rfl w1.heap.size (.slice A7 k c7) (ordW false (signs36.take k)) rfl (H3.out.2.1.below ((Below.refl _ _).alloc (Nat.le_refl _) _)) (some ⟨w3.heap.size, 0, none⟩) 1 1 [ordH c] rfl (Hw.hr (lit_hw w3 c)) ?_ ?_ ?_
           · rw [ordW_len false k (by have := HK36.out; omega)]; have := HK36.out; omega
           · have := H3.out.2.2.2.size; simp; omega
           intro wv2 w4 hown hg hv
           have H4 := Lib.hid (OrJ.more (v := .slice A7 k c7) H3.out (by rw [← ordW_false k HK36.out, HCC.out]; exact hown) hg hv (.inl rfl))
           clear hown hg hv))
      go_roundw
      case rel => exact ⟨k + 1, hlt, by go_num, H4⟩
      case measure => simp [intOf]; omega
    · obtain rfl : k = N := by omega
      obtain ⟨A6, c6, e6, _⟩ := hh.out.own.form
      subst e6
      obtain ⟨A7, c7, e7, _⟩ := hh.out.want.form
      rw [ordW_len false k (by omega)] at e7
      subst e7
      have HA := Lib.hid (ord_apply false k (by omega) A6 c6 _ wr (HE.out.below (HB1.out.trans (hh.out.bel.mono HB1.out.size))) hh.out.own)
      go_wp2_with fail
      refine HA.out.mono ?_
      rintro e w4 ⟨A9, c9, A8, c8, rfl, g4⟩
      have hb5 : Below wr.heap.size wr (w4.alloc (.cells #[.int .i64 0, .string ⟨#[]⟩, .slice A9 k c9, .slice A8 0 c8] 39)) := g4.out.2.alloc g4.out.2.size _
      have HS := Lib.hid (sameHeaders_yes A9 A7 k c9 c7 (ordW false (signs36.take k)) _ (by omega) (g4.out.1.below ((Below.refl _ _).alloc (Nat.le_refl _) _)) ((Hw.hr hh.out.want).below hb5))
      have HB5 := Lib.hid (hh.out.bel.trans (hb5.mono hh.out.bel.size))
      clear hb5 HA
      go_wp2_with fail
      refine HS.out.mono ?_
      rintro e w6 ⟨rfl, g6⟩
      have HB6 := Lib.hid (HB5.out.trans (g6.mono HB5.out.size))
      clear g6
      go_wp2
      go_ret
      exact ⟨rfl, HB1.out.trans (HB6.out.mono HB1.out.size)⟩
theorem chainOrder_any (n : Int) (b : Bool) (w : World) (he : EnvC w) : Calls Tryz.prog 4 #[.int .i64 n, .bool b] w fun e w' => e = .returned (.bool true) ∧ Below w.heap.size w w' := by
  cases b
  · exact chainOrder_false n w he
  · exact chainOrder_true n w he
end Go.Proofs.YthokfopeddaiiaaGreatDoor
