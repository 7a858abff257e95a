/-
  GrpcOwn: messages that are told are new memory.
-/
import Derived.Test.YtlggoiablbmmlaaDoorFst
import Derived.LoopTactic
import Derived.OpenShut
namespace Go.Own
open Go.RowKit
theorem own_form {w : World} {base n : Nat} {e : TypeId} {v : Value} {xs : List Value} (h : w.ownsRow base e 1 v n xs) : ∃ A c, v = .slice A n c ∧ n ≤ c := by
  rcases h.2 with ⟨rfl, rfl⟩ | ⟨g, cap, cur, rfl, hb, hh, hn, _⟩
  · exact ⟨none, 0, rfl, Nat.le_refl _⟩
  · exact ⟨_, cap, rfl, hn⟩
/-- A row of one's own that is not empty: its block, known whole. -/
theorem own_row {w : World} {base n c : Nat} {e : TypeId} {A : Option Addr} {xs : List Value} (h : w.ownsRow base e 1 (.slice A n c) n xs) (h0 : 0 < n) : ∃ (g : Nat) (cs : Array Value), A = some ⟨g, 0, none⟩ ∧ Blk w g e cs ∧ base ≤ g ∧ n ≤ cs.size ∧ n ≤ c ∧ ∀ (j : Nat) (u : Value), xs[j]? = some u → cs[j]? = some u := by
  rcases h.2 with ⟨hv, rfl⟩ | ⟨g, cap, cur, hv, hb, hh, hn, hm, hs, ht⟩
  · omega
  · injection hv with hA _ hc
    subst hA hc
    have hz : cur.size = c := by simpa using hs
    refine ⟨g, cur, rfl, hh, hb, by omega, hn, fun j u hj => ?_⟩
    rw [← ht] at hj
    rw [← Array.getElem?_toList]
    have := List.getElem?_take (l := cur.toList) (i := n * 1) (j := j)
    rw [this] at hj
    split at hj
    · exact hj
    · cases hj
theorem own_keep {w w' : World} {base n : Nat} {e : TypeId} {v : Value} {xs : List Value} (h : w.ownsRow base e 1 v n xs) (hk : ∀ b, v.ownBlock = some b → b < w.heap.size → w'.heap[b]? = w.heap[b]?) : w'.ownsRow base e 1 v n xs := by
  rcases h.2 with ⟨rfl, rfl⟩ | ⟨g, cap, cur, rfl, hb, hh, hn, hm, hs, ht⟩
  · exact ⟨h.1, .inl ⟨rfl, rfl⟩⟩
  · have hlt : g < w.heap.size := by
      rcases Nat.lt_or_ge g w.heap.size with hlt | hge
      · exact hlt
      · rw [Array.getElem?_eq_none hge] at hh; cases hh
    exact ⟨h.1, .inr ⟨g, cap, cur, rfl, hb, (hk g rfl hlt).trans hh, hn, hm, hs, ht⟩⟩
theorem om_keep {w w' : World} {base n : Nat} {v : Value} {l : List UInt8} (h : Om w base v n l) (hz : w.heap.size ≤ w'.heap.size) (hk : ∀ b, v.ownBlock = some b → b < w.heap.size → w'.heap[b]? = w.heap[b]?) : Om w' base v n l := by
  obtain ⟨hl, h⟩ := h
  refine ⟨hl, ?_⟩
  rcases h with h | ⟨g, off, cap, rfl, hbg, hgs, h1, h2, h3, h4⟩
  · exact .inl h
  · have hblk : w'.heap[g]? = w.heap[g]? := hk g rfl hgs
    have hc : ∀ o, w'.cell? ⟨g, o, none⟩ = w.cell? ⟨g, o, none⟩ := fun o => by unfold World.cell?; simp only [hblk]
    have hf : ∀ o, w'.frozen? ⟨g, o, none⟩ = w.frozen? ⟨g, o, none⟩ := fun o => by unfold World.frozen?; simp only [hblk]
    exact .inr ⟨g, off, cap, rfl, hbg, Nat.lt_of_lt_of_le hgs hz, h1, h2, fun j hj => by rw [hc, hf]; exact h3 j hj, fun j hj => by rw [hc]; exact h4 j hj⟩
theorem Blk.kept2 {w w' : World} {g i : Nat} {fb : Option Nat} {e : TypeId} {cs : Array Value} (h : Blk w i e cs) (hk : Kept2 w w' g fb) (h1 : i ≠ g) (h2 : some i ≠ fb) : Blk w' i e cs := (hk.block i h.lt h1 h2).trans h
/-- Block g is being written over, from w on. -/
def Fil (w : World) (g n : Nat) (e : TypeId) (wr : World) : Prop := ∃ cs, Blk wr g e cs ∧ n ≤ cs.size ∧ w.grownBy wr (some g)
theorem Fil.start {w : World} {g n : Nat} {e : TypeId} {cs : Array Value} (h : Blk w g e cs) (hn : n ≤ cs.size) : Fil w g n e w := ⟨cs, h, hn, World.grownBy.refl w _⟩
theorem Fil.cell {w wr : World} {g n k : Nat} {e : TypeId} (h : Fil w g n e wr) (hk : k < n) : ∃ u, wr.cell? ⟨g, k, none⟩ = some u ∧ wr.frozen? ⟨g, k, none⟩ = false := by
  obtain ⟨cs, hb, hn, _⟩ := h
  exact ⟨cs[k], by rw [hb.cell]; exact Array.getElem?_eq_getElem (by omega), hb.frozen k⟩
theorem Fil.put {w wr : World} {g n : Nat} {e : TypeId} (h : Fil w g n e wr) (k : Nat) (u : Value) : Fil w g n e (wr.setCell ⟨g, k, none⟩ u) := by
  obtain ⟨cs, hb, hn, hg⟩ := h
  exact ⟨cs.setIfInBounds k u, hb.put k u, by simpa using hn, grown_setCell hg k u⟩
theorem Fil.grown {w wr : World} {g n : Nat} {e : TypeId} (h : Fil w g n e wr) : w.grownBy wr (some g) := h.choose_spec.2.2
/-- Block g, of bytes, is being written over, from w on. -/
def FilB (w : World) (g n : Nat) (e : TypeId) (wr : World) : Prop := ∃ l : List UInt8, l.length = n ∧ Blk wr g e (l.map bv).toArray ∧ w.grownBy wr (some g)
theorem FilB.start {w : World} {g n : Nat} {e : TypeId} {l : List UInt8} (h : Blk w g e (l.map bv).toArray) (hn : l.length = n) : FilB w g n e w := ⟨l, hn, h, World.grownBy.refl w _⟩
theorem FilB.cell {w wr : World} {g n k : Nat} {e : TypeId} (h : FilB w g n e wr) (hk : k < n) : ∃ u, wr.cell? ⟨g, k, none⟩ = some u ∧ wr.frozen? ⟨g, k, none⟩ = false := by
  obtain ⟨l, hn, hb, _⟩ := h
  exact ⟨bv (l[k]'(by omega)), by rw [hb.cell]; simp [hn, hk], hb.frozen k⟩
theorem FilB.put {w wr : World} {g n : Nat} {e : TypeId} (h : FilB w g n e wr) (k : Nat) (x : UInt8) : FilB w g n e (wr.setCell ⟨g, k, none⟩ (bv x)) := by
  obtain ⟨l, hn, hb, hg⟩ := h
  refine ⟨l.set k x, by simpa using hn, ?_, grown_setCell hg k _⟩
  have := hb.put k (bv x)
  simpa [List.map_set] using this
theorem FilB.grown {w wr : World} {g n : Nat} {e : TypeId} (h : FilB w g n e wr) : w.grownBy wr (some g) := h.choose_spec.2.2
theorem blk_ne {w : World} {g g' : Nat} {e e' : TypeId} {cs cs' : Array Value} (h : Blk w g e cs) (h' : Blk w g' e' cs') (he : e ≠ e') : g ≠ g' := by
  rintro rfl
  unfold Blk at h h'
  rw [h] at h'
  simp only [Option.some.injEq, Obj.cells.injEq] at h'
  exact he h'.2.1
theorem rd_blk {w : World} {g n : Nat} {e : TypeId} {l : List UInt8} (h : Blk w g e (l.map bv).toArray) (hl : l.length = n) : Rd w w.heap.size (some ⟨g, 0, none⟩) n l := by
  refine ⟨hl, fun _ => ⟨_, rfl, h.lt, fun j hj => ?_⟩⟩
  rw [Addr.add_lit, Nat.zero_add, h.cell, ← Array.getElem?_toList, List.getElem?_map, List.getElem?_eq_getElem (by omega)]
  simp [bv, List.getD_eq_getElem?_getD, List.getElem?_eq_getElem (show j < l.length by omega)]
theorem bks_two {w : World} {H : Nat} {e : TypeId} {gs : List Nat} {a b : List UInt8} (h : Bks w H e gs [a, b]) : ∃ ga gb, gs = [ga, gb] ∧ H ≤ ga ∧ ga < gb ∧ Blk w ga e (a.map bv).toArray ∧ Blk w gb e (b.map bv).toArray := by
  match gs, h with
  | [ga, gb], ⟨h1, h2, h3, _, h5, _, _⟩ => exact ⟨ga, gb, rfl, h1, h3 gb (by simp), h2, h5⟩
theorem below_grown {B : Nat} {a w w' : World} {row : Option Nat} (h : Below B a w) (hg : w.grownBy w' row) (hB : B ≤ w.heap.size) (hr : ∀ k, row = some k → B ≤ k) : Below B a w' := h.grown hg hB hr
theorem below_kept2 {B : Nat} {a w w' : World} {g : Nat} {fb : Option Nat} (h : Below B a w) (hk : Kept2 w w' g fb) (hB : B ≤ w.heap.size) (hg : B ≤ g) (hf : ∀ k, fb = some k → B ≤ k) : Below B a w' :=
  h.trans ⟨hk.os, hk.tape, hk.output, hk.size, fun i hi => hk.block i (by omega) (by omega) (fun e => by have := hf _ e.symm; omega)⟩
end Go.Own
namespace Go.Proofs.YtlggoiablbmmlaaDoor
open Go.RowKit Go.Own Go.Own.Grpc

theorem chw_one (l : List UInt8) (hl : l.length ≤ 8192) (k : Nat) (hk : k < 5 + l.length) : chw 8192 ([] ++ (hdr l.length ++ l).take k) [] = (0, [], (hdr l.length ++ l).take k) := by
  have e : enc [l] = hdr l.length ++ l := by simp [enc]
  have hlen : (enc [l]).length = 5 + l.length := by rw [e]; simp [hdr_len]
  obtain ⟨j, p', hj, hp', hs, hc, _⟩ := chw_enc 8192 (by omega) [l] k [] (by intro m hm; simp at hm; subst hm; omega) (by omega)
  have hj0 : j = 0 := by
    rcases Nat.eq_zero_or_pos j with h | h
    · exact h
    · have : j = 1 := by simp at hj; omega
      subst this
      rw [show [l].take 1 = [l] from rfl, hlen] at hs
      omega
  subst hj0
  simp [enc] at hs
  subst hs
  rw [List.nil_append, ← e, hc]
  simp
theorem chw_two (l : List UInt8) (hl : l.length ≤ 8192) (k : Nat) : chw 8192 ((hdr l.length ++ l).take k ++ ((hdr l.length ++ l).drop k ++ (hdr l.length ++ l))) [] = (0, [l, l], []) := by
  have e : enc [l, l] = (hdr l.length ++ l) ++ (hdr l.length ++ l) := by simp [enc]
  rw [← List.append_assoc, List.take_append_drop, ← e]
  obtain ⟨j, p', hj, hp', hs, hc, hall⟩ := chw_enc 8192 (by omega) [l, l] (enc [l, l]).length [] (by intro m hm; simp at hm; subst hm; omega) (Nat.le_refl _)
  have hj2 : j = 2 := hall rfl
  subst hj2
  rw [List.take_of_length_le (Nat.le_refl _)] at hc
  rw [hc]
  simp [enc]

set_option maxRecDepth 100000 in
theorem left_any (g : Nat) (most : Int) (A : Option Addr) (n c : Nat) (gone : Bool) (w : World) (hb : RdB w g most (.slice A n c) gone) :
    Calls Tryd.prog 11 #[.pointer (some ⟨g, 0, none⟩)] w fun e w' => e = .returned (.int .i64 n) ∧ w = w' := by
  have c1 := Blk.cell hb 1
  simp only [List.getElem?_toArray, List.getElem?_cons_zero, List.getElem?_cons_succ] at c1
  clear hb
  go_enter Tryd.func11, Tryd.ntmps11
  go_wp2
  go_ret
  exact ⟨rfl, rfl⟩

set_option maxHeartbeats 8000000 in
set_option maxRecDepth 100000 in
theorem own_any (A : Option Addr) (n c : Nat) (l : List UInt8) (cut : Int) (w : World) (e1 e2 e3 e4 : Addr) (he : EnvG w e1 e2 e3 e4) (hr : Rd w w.heap.size A n l) (hc1 : -9223372036854775808 ≤ cut) (hc2 : cut ≤ 9223372036854775807) :
    Calls Tryd.prog 4 #[.slice A n c, .int .i64 cut] w fun e w' => e = .returned (.bool true) ∧ Below w.heap.size w w' := by
  have HE := Lib.hid he
  have h12 := he.room
  have HF := Lib.hid (first_any w e1 e2 e3 e4 he)
  have HR := Lib.hid hr
  have hln := hr.len
  clear he hr
  by_cases hbig : 8192 < n
  · clear hln hc1 hc2
    go_enter Tryd.func4, Tryd.ntmps4
    go_wp2_with fail
    refine HF.out.mono ?_
    rintro e w1 ⟨rfl, hb⟩
    have HB := Lib.hid hb
    clear hb
    go_wp2
    go_ret
    exact ⟨rfl, HB.out⟩
  have hn : n ≤ 8192 := by omega
  have HL := Lib.hid hln
  obtain ⟨r, hr⟩ : ∃ r : Int, cut.tmod (5 + (n : Int)) = r := ⟨_, rfl⟩
  have hr1 : -(5 + (n : Int)) < r ∧ r < (5 + (n : Int)) := by
    rw [← hr]
    exact ⟨Int.lt_tmod_of_pos _ (by omega), Int.tmod_lt_of_pos _ (by omega)⟩
  obtain ⟨k, hk⟩ : ∃ k : Nat, (r + (5 + (n : Int))).tmod (5 + (n : Int)) = (k : Int) := ⟨((r + (5 + (n : Int))).tmod (5 + (n : Int))).toNat, by
    have := Int.tmod_nonneg (a := r + (5 + (n : Int))) (5 + (n : Int)) (by omega)
    omega⟩
  have hkn : k < 5 + n := by
    have := Int.tmod_lt_of_pos (r + (5 + (n : Int))) (b := (5 + (n : Int))) (by omega)
    omega
  have hk' : (r + (5 + (n : Int))) % (5 + (n : Int)) = (k : Int) := by
    rw [← hk, Int.tmod_eq_emod_of_nonneg (by omega)]
  clear hbig hln
  go_enter Tryd.func4, Tryd.ntmps4
  go_wp2_with fail
  refine HF.out.mono ?_
  rintro e w1 ⟨rfl, hb⟩
  have HB1 := Lib.hid hb
  have hs1 := hb.size
  clear hb
  go_wp2_with fail
  refine (newReader_any 8192 _).mono ?_
  rintro e w2 ⟨rfl, hw2⟩
  have HR2 : Hid (RdB w2 w1.heap.size 8192 (.slice none 0 0) false) := Lib.hid (hw2 ▸ Blk.new w1 49 _)
  have HB2 : Hid (Below w.heap.size w w2) := Lib.hid (hw2 ▸ HB1.out.alloc hs1 _)
  have hs2 : w1.heap.size < w2.heap.size := HR2.out.lt
  clear hw2
  go_wp2_with fail
  refine (put_any none A 0 0 n c [] l _ w2.heap.size w.heap.size ⟨rfl, fun h => absurd h (by omega)⟩ (Nat.le_refl _) (by exact HR.out.below HB2.out) HB2.out.size (by omega) (by omega)).mono ?_
  rintro e w3 ⟨rfl, ho3, hb3⟩
  simp only [Nat.zero_add, List.nil_append] at ho3
  have HO3 := Lib.hid ho3
  have HB3 := Lib.hid (HB2.out.trans (hb3.mono HB2.out.size))
  have HR3 : Hid (RdB w3 w1.heap.size 8192 (.slice none 0 0) false) := Lib.hid (HR2.out.below hb3 hs2)
  have hs3 := hb3.size
  clear ho3 hb3 HR2
  obtain ⟨A5, hr5, hs5⟩ := cut_from (P := Tryd.prog) byteP HO3.out.rd (k := k) (k : Int) rfl (by omega) (Nat.le_refl _)
  have HR5 := Lib.hid hr5
  clear hr5
  go_wp2_with fail
  refine (bytes_any _ k (5 + n) ((hdr n ++ l).take k) _ w3.heap.size (by exact HO3.out.rd.head (by omega)) (Nat.le_refl _) (by omega)).mono ?_
  rintro e w4 ⟨rfl, ho4, hb4⟩
  have HO4 := Lib.hid ho4
  have HB4 := Lib.hid (HB3.out.trans (hb4.mono HB3.out.size))
  have HR4 : Hid (RdB w4 w1.heap.size 8192 (.slice none 0 0) false) := Lib.hid (HR3.out.below hb4 (by omega))
  have HB34 := Lib.hid hb4
  have hs4 := hb4.size
  clear ho4 hb4 HR3
  go_wp2_with fail
  refine (bytes_any A5 (5 + n - k) _ ((hdr n ++ l).drop k) _ w3.heap.size (by exact HR5.out.below HB34.out) hs4 (by omega)).mono ?_
  rintro e w5 ⟨rfl, ho5, hb5⟩
  have HO5 := Lib.hid ho5
  have HB45 := Lib.hid hb5
  have HB5 := Lib.hid (HB4.out.trans (hb5.mono HB4.out.size))
  have HR5' : Hid (RdB w5 w1.heap.size 8192 (.slice none 0 0) false) := Lib.hid (HR4.out.below hb5 (by omega))
  have hs5' := hb5.size
  clear ho5 hb5 HR4 hs5 HR5
  have HO3' := Lib.hid ((HO3.out.rd.below HB34.out).below (HB45.out.mono hs4))
  go_wp2_with (
       at_builtin
       refine wpList_app_any _ byteP rfl (.tmp 49) (.tmp 50) rfl w4.heap.size (.slice (some ⟨w4.heap.size, 0, none⟩) (5 + n - k) (5 + n - k)) (5 + n - k) ((hdr n ++ l).drop k) rfl HO5.out w3.heap.size (some ⟨w2.heap.size, 0, none⟩) (5 + n) (5 + n) (hdr n ++ l) rfl HO3'.out (by omega) (by omega) ?_
       intro A6 cap6 w6 ho6 hg6 hw6 hc6 hc6'
       have HO6 := Lib.hid ho6
       have HG6 := Lib.hid hg6
       have HB56 : Hid (Below w4.heap.size w5 w6) := Lib.hid (Below.grown (Below.refl _ _) hg6 hs5' (fun k hk => by have := (HO5.out.lt hk).2; exact this))
       have HB6 := Lib.hid (HB5.out.trans (HB56.out.mono (by have := HB4.out.size; omega)))
       have HR6 : Hid (RdB w6 w1.heap.size 8192 (.slice none 0 0) false) := Lib.hid (HR5'.out.below HB56.out (by omega))
       have hs6 := hg6.size
       clear ho6 hg6 hw6 hc6 hc6')
  have HRO : Hid (Rd w6 w6.heap.size (some ⟨w3.heap.size, 0, none⟩) k ((hdr n ++ l).take k)) := Lib.hid (((HO4.out.rd.below HB45.out).below (HB56.out)).more (by omega))
  have HBO : Hid (Blk w6 w3.heap.size 5 (((hdr n ++ l).take k).map bv).toArray) := Lib.hid ((HO4.out.blk.1.below HB45.out HO4.out.blk.1.lt).below HB56.out HO4.out.blk.1.lt)
  have h3lt : w3.heap.size < w4.heap.size := HO4.out.blk.1.lt
  have hH1 : w.heap.size ≤ w1.heap.size := hs1
  have HC1 : Hid (chw 8192 ([] ++ (hdr n ++ l).take k) [] = (0, [], (hdr n ++ l).take k)) := Lib.hid (by
    have := chw_one l (by rw [HL.out]; omega) k (by rw [HL.out]; exact hkn)
    rw [HL.out] at this
    exact this)
  clear HO3 HO3' HO5 HB1 HB2 HB3 HB4 HB5 HB34 HR5' hk hk' hr hr1 HG6
  go_wp2_with fail
  refine (feed_any w1.heap.size 8192 (.slice none 0 0) 0 [] _ k k w6.heap.size w.heap.size ((hdr n ++ l).take k) _ e1 e2 e3 e4 (by exact HE.out.below HB6.out h12) (by exact HR6.out) (Om.nil _ _) (by simp [Value.ownBlock]) (by omega) (by omega) h12 (by exact HRO.out) (Nat.le_refl _) (by omega)).mono ?_
  rw [HC1.out]
  rintro e w7 ⟨hk7, hp7⟩
  obtain ⟨A7, n7, c7, gs7, outv7, rfl, hb7, ho7, hw7, ht7, hg7, hx7⟩ : ∃ A7 n7 c7 gs7 outv7, e = .returned (.tuple #[outv7, .nilIface]) ∧ RdB w7 w1.heap.size 8192 (.slice A7 n7 c7) false ∧ Om w7 w.heap.size (.slice A7 n7 c7) n7 ((hdr n ++ l).take k) ∧
      ((Value.slice A7 n7 c7).ownBlock = (Value.slice none 0 0).ownBlock ∨ (Value.slice A7 n7 c7).ownBlock = none ∨ ∃ b, (Value.slice A7 n7 c7).ownBlock = some b ∧ w6.heap.size ≤ b) ∧
      Bks w7 w6.heap.size 5 gs7 [] ∧ (∀ k ∈ gs7, (Value.slice A7 n7 c7).ownBlock ≠ some k) ∧ w7.ownsRow w6.heap.size 25 1 outv7 gs7.length (rows gs7 []) := by
    rcases hp7 with ⟨_, h⟩ | ⟨h, _⟩ | ⟨h, _⟩
    · exact h
    · cases h
    · cases h
  obtain rfl : gs7 = [] := List.eq_nil_of_length_eq_zero (by rw [ht7.len]; rfl)
  obtain ⟨Ax, cx, rfl, _⟩ := own_form hx7
  have hw7' : ∀ b, (Value.slice A7 n7 c7).ownBlock = some b → w6.heap.size ≤ b := by
    intro b hb
    rcases hw7 with h | h | ⟨b', h, h'⟩
    · rw [h] at hb; cases hb
    · rw [h] at hb; cases hb
    · rw [h] at hb; injection hb with hb; omega
  have HK7 := Lib.hid hk7
  have HR7 := Lib.hid hb7
  have HM7 := Lib.hid ho7
  have HW7 := Lib.hid hw7'
  have HB7 := Lib.hid (below_kept2 HB6.out hk7 (by omega) (by omega) (by simp [Value.ownBlock]))
  have HT7 : Hid (Ow w7 w4.heap.size 5 (.slice A6 (5 + n - k + (5 + n)) cap6) (5 + n - k + (5 + n)) ((hdr n ++ l).drop k ++ (hdr n ++ l))) := Lib.hid (own_keep HO6.out fun b hb hlt => hk7.block b hlt (by have := (HO6.out.lt hb).2; omega) (by simp [Value.ownBlock]))
  have HBO7 := Lib.hid (HBO.out.kept2 hk7 (by omega) (by simp [Value.ownBlock]))
  have HA6 : Hid (∀ g, (Value.slice A6 (5 + n - k + (5 + n)) cap6).ownBlock = some g → g < w6.heap.size) := Lib.hid (fun g h => (HO6.out.lt h).1)
  have hs7 := hk7.size
  clear hk7 hp7 hb7 ho7 hw7 hw7' ht7 hg7 hx7 HR6 HB6 HO6 HBO HRO HC1 HO4 HB45 HB56
  go_wp2_with fail
  go_loopw [13] (fun i wr => ∃ j : Nat, j ≤ k ∧ i = .int .i64 j ∧ Hid (Fil w7 w3.heap.size k 5 wr)) (fun i _ => k - (intOf i).toNat)
  case atStart => exact ⟨0, by omega, rfl, Lib.hid (Fil.start HBO7.out (by have := HL.out; simp [hdr_len]; omega))⟩
  case round =>
    obtain ⟨j, hj, rfl, HFi⟩ := hrel
    by_cases hjk : j < k
    · obtain ⟨u, hu, hfz⟩ := HFi.out.cell hjk
      have HP := Lib.hid (HFi.out.put j (.int .u8 238))
      go_wp2
      exact ⟨⟨j + 1, by omega, by go_num, HP⟩, by simp [intOf]; omega⟩
    obtain ⟨w8, rfl⟩ : ∃ w8 : World, w8 = wr := ⟨_, rfl⟩
    have hg8 := HFi.out.grown
    have HR8 := Lib.hid (HR7.out.grown hg8 (by intro e; injection e with e; omega))
    have HM8 := Lib.hid (om_keep HM7.out hg8.size fun b hb hlt => hg8.block b hlt (by intro e; injection e with e; have := HW7.out b hb; omega))
    have HT8 : Hid (Ow w8 w4.heap.size 5 (.slice A6 (5 + n - k + (5 + n)) cap6) (5 + n - k + (5 + n)) ((hdr n ++ l).drop k ++ (hdr n ++ l))) := Lib.hid (own_keep HT7.out fun b hb hlt => hg8.block b hlt (by intro e; injection e with e; have := (HT7.out.lt hb).2; omega))
    have HB8 := Lib.hid (HB7.out.grown hg8 HB7.out.size (by intro b hb; injection hb with hb; omega))
    have hs8 := hg8.size
    have HC2 : Hid (chw 8192 ((hdr n ++ l).take k ++ ((hdr n ++ l).drop k ++ (hdr n ++ l))) [] = (0, [l, l], [])) := Lib.hid (by
      have := chw_two l (by rw [HL.out]; omega) k
      rw [HL.out] at this
      exact this)
    clear hg8 HFi HR7 HM7 HT7 HB7 HBO7
    go_wp2_with fail
    refine (feed_any w1.heap.size 8192 (.slice A7 n7 c7) n7 ((hdr n ++ l).take k) A6 (5 + n - k + (5 + n)) cap6 w8.heap.size w.heap.size ((hdr n ++ l).drop k ++ (hdr n ++ l)) _ e1 e2 e3 e4 (by exact HE.out.below HB8.out h12) (by exact HR8.out) (by exact HM8.out) (by intro h; have := HW7.out _ h; omega) (by omega) (by omega) h12 (by exact HT8.out.rd) (Nat.le_refl _) (by have := HM8.out.len; have := List.length_take_le k (hdr n ++ l); omega)).mono ?_
    rw [HC2.out]
    rintro e w9 ⟨hk9, hp9⟩
    obtain ⟨A9, n9, c9, gs9, outv9, rfl, hb9, ho9, ht9, hx9⟩ : ∃ A9 n9 c9 gs9 outv9, e = .returned (.tuple #[outv9, .nilIface]) ∧ RdB w9 w1.heap.size 8192 (.slice A9 n9 c9) false ∧ Om w9 w.heap.size (.slice A9 n9 c9) n9 [] ∧
        Bks w9 w8.heap.size 5 gs9 [l, l] ∧ w9.ownsRow w8.heap.size 25 1 outv9 gs9.length (rows gs9 [l, l]) := by
      rcases hp9 with ⟨_, A9, n9, c9, gs9, outv9, h1, h2, h3, _, h4, _, h5⟩ | ⟨h, _⟩ | ⟨h, _⟩
      · exact ⟨A9, n9, c9, gs9, outv9, h1, h2, h3, h4, h5⟩
      · cases h
      · cases h
    obtain rfl : n9 = 0 := by rw [← ho9.len]; rfl
    obtain ⟨ga, gb, rfl, hga, hgab, hba, hbb⟩ := bks_two ht9
    obtain ⟨Ay, cy, rfl, _⟩ := own_form hx9
    obtain ⟨gy, cs, rfl, hby, hgy, hcs, hcy, hat⟩ := own_row hx9 (by simp)
    have hya : gy ≠ ga := blk_ne hby hba (by decide)
    have hyb : gy ≠ gb := blk_ne hby hbb (by decide)
    simp only [List.length_cons, List.length_nil, rows, HL.out] at hcs hcy hat
    have HA9 := Lib.hid hba
    have HBb9 := Lib.hid hbb
    have HY9 := Lib.hid hby
    have HAt : Hid (cs[0]? = some (.slice (some ⟨ga, 0, none⟩) n n) ∧ cs[1]? = some (.slice (some ⟨gb, 0, none⟩) n n)) := Lib.hid ⟨hat 0 _ rfl, hat 1 _ rfl⟩
    have HR9 := Lib.hid hb9
    have HB9 := Lib.hid (below_kept2 HB8.out hk9 HB8.out.size (by omega) (fun b hb => by have := HW7.out b hb; omega))
    obtain ⟨g6, cs6, rfl, hb6, hg6, hcs6, hcc6, _⟩ := own_row HT8.out (by omega)
    have hg6' : g6 < w6.heap.size := HA6.out g6 rfl
    have HBT := Lib.hid (hb6.kept2 hk9 (by omega) (by intro h; have := HW7.out g6 h.symm; omega))
    have hs9 := hk9.size
    have hY9 := hby.lt
    have hbl := hbb.lt
    have HC6 : Hid (5 + n - k + (5 + n) ≤ cs6.size) := Lib.hid (by simpa using hcs6)
    clear hk9 hp9 hb9 ho9 ht9 hx9 hat hba hbb hby hcs hb6 hcs6 HR8 HM8 HT8 HB8 HC2 HW7 HA6
    go_wp2_with fail
    go_loopw [16] (fun i wr => ∃ j : Nat, j ≤ 5 + n - k + (5 + n) ∧ i = .int .i64 j ∧ Hid (Fil w9 g6 (5 + n - k + (5 + n)) 5 wr)) (fun i _ => 5 + n - k + (5 + n) - (intOf i).toNat)
    case atStart => exact ⟨0, by omega, rfl, Lib.hid (Fil.start HBT.out HC6.out)⟩
    case round =>
      obtain ⟨j2, hj2, rfl, HFi⟩ := hrel
      by_cases hjk2 : j2 < 5 + n - k + (5 + n)
      · obtain ⟨u, hu, hfz⟩ := HFi.out.cell hjk2
        have HP := Lib.hid (HFi.out.put j2 (.int .u8 238))
        go_wp2
        exact ⟨⟨j2 + 1, by omega, by go_num, HP⟩, by simp [intOf]; omega⟩
      obtain ⟨w10, rfl⟩ : ∃ w10 : World, w10 = wr := ⟨_, rfl⟩
      have hg10 := HFi.out.grown
      have HR10 := Lib.hid (HR9.out.grown hg10 (by intro e; injection e with e; omega))
      have HB10 := Lib.hid (below_grown HB9.out hg10 HB9.out.size (by intro b hb; injection hb with hb; omega))
      have HA10 := Lib.hid (HA9.out.grown hg10 (by intro e; injection e with e; omega))
      have HBb10 := Lib.hid (HBb9.out.grown hg10 (by intro e; injection e with e; omega))
      have HY10 := Lib.hid (HY9.out.grown hg10 (by intro e; injection e with e; omega))
      have hs10 := hg10.size
      have y0 : w10.cell? ⟨gy, 0, none⟩ = some (.slice (some ⟨ga, 0, none⟩) n n) := (HY10.out.cell 0).trans HAt.out.1
      clear hg10 HFi HR9 HB9 HA9 HBb9 HY9 HBT HC6
      go_wp2_with fail
      have hlt : l.length = n := HL.out
      refine (sameBytes_any (some ⟨ga, 0, none⟩) A n n n c l l w10 w10.heap.size w.heap.size (rd_blk HA10.out hlt) (by exact HR.out.below HB10.out)).mono ?_
      rintro e w11 ⟨rfl, rfl⟩
      simp only [decide_true]
      go_wp2_with fail
      have hya' : gy ≠ ga := hya
      go_loopw [17] (fun i wr => ∃ j : Nat, j ≤ n ∧ i = .int .i64 j ∧ Hid (FilB w10 ga n 5 wr)) (fun i _ => n - (intOf i).toNat)
      case atStart => exact ⟨0, by omega, rfl, Lib.hid (FilB.start HA10.out hlt)⟩
      case round =>
        obtain ⟨j3, hj3, rfl, HFi⟩ := hrel
        have hg11 := HFi.out.grown
        have HY11 := Lib.hid (HY10.out.grown hg11 (by intro e; injection e with e; omega))
        have y0 : wr.cell? ⟨gy, 0, none⟩ = some (.slice (some ⟨ga, 0, none⟩) n n) := (HY11.out.cell 0).trans HAt.out.1
        by_cases hjk3 : j3 < n
        · obtain ⟨u, hu, hfz⟩ := HFi.out.cell hjk3
          have HP := Lib.hid (HFi.out.put j3 238)
          go_wp2
          exact ⟨⟨j3 + 1, by omega, by go_num, HP⟩, by simp [intOf]; omega⟩
        obtain ⟨w11, rfl⟩ : ∃ w11 : World, w11 = wr := ⟨_, rfl⟩
        have HR11 := Lib.hid (HR10.out.grown hg11 (by intro e; injection e with e; omega))
        have HB11 := Lib.hid (below_grown HB10.out hg11 HB10.out.size (by intro b hb; injection hb with hb; omega))
        have HBb11 := Lib.hid (HBb10.out.grown hg11 (by intro e; injection e with e; omega))
        have hs11 := hg11.size
        obtain ⟨l3, hl3, hb3, _⟩ := HFi.out
        have HO11 : Hid (Ow w11 w.heap.size 5 (.slice (some ⟨ga, 0, none⟩) n n) n l3) := Lib.hid (by have := hb3.ow (base := w.heap.size) (by omega) (by simp only [maxLen]; omega); rw [hl3] at this; exact this)
        clear hg11 HFi HR10 HB10 HBb10 HY10 HA10 hb3 hl3
        go_wp2_with (
          at_builtin
          refine wpList_app_any _ byteP rfl (.tmp 122) (.tmp 123) rfl w.heap.size (.slice (some ⟨ga, 0, none⟩) n n) n l3 rfl (HO11.out.alloc _) (w11.heap.size + 1) (some ⟨w11.heap.size, 0, none⟩) 1 1 [1] rfl (by exact Rd.lits w11 _ [1] 5 rfl) (by omega) (by simp; omega) ?_
          intro A12 cap12 w12 ho12 hg12 hw12 hc12 hc12'
          have hgt : w11.grownBy w12 (some ga) := (grown_alloc (World.grownBy.refl w11 _) _).trans hg12
          have HY12 := Lib.hid (HY11.out.grown hgt (by intro e; injection e with e; omega))
          have HR12 := Lib.hid (HR11.out.grown hgt (by intro e; injection e with e; omega))
          have HB12 := Lib.hid (below_grown HB11.out hgt HB11.out.size (by intro b hb; injection hb with hb; omega))
          have HBb12 := Lib.hid (HBb11.out.grown hgt (by intro e; injection e with e; omega))
          have hs12 := hgt.size
          have y1 : w12.cell? ⟨gy, 1, none⟩ = some (.slice (some ⟨gb, 0, none⟩) n n) := (HY12.out.cell 1).trans HAt.out.2
          have y0' : ∃ u, w12.cell? ⟨gy, 0, none⟩ = some u ∧ w12.frozen? ⟨gy, 0, none⟩ = false := ⟨_, (HY12.out.cell 0).trans HAt.out.1, HY12.out.frozen 0⟩
          obtain ⟨u0, y0', fz0⟩ := y0'
          clear ho12 hg12 hgt hw12 hc12 hc12' HR11 HB11 HBb11 HY11)
        obtain ⟨w13, hw13⟩ : ∃ w13, w13 = w12.setCell ⟨gy, 0, none⟩ (.slice A12 (n + 1) cap12) := ⟨_, rfl⟩
        have hg13 : w12.grownBy w13 (some gy) := hw13 ▸ grown_setCell (World.grownBy.refl w12 _) 0 _
        have HR13 := Lib.hid (HR12.out.grown hg13 (by intro e; injection e with e; omega))
        have HB13 := Lib.hid (below_grown HB12.out hg13 HB12.out.size (by intro b hb; injection hb with hb; omega))
        have HBb13 := Lib.hid (HBb12.out.grown hg13 (by intro e; injection e with e; omega))
        rw [← hw13]
        clear hw13 hg13 HR12 HB12 HBb12 HY12 y1 y0' fz0
        refine (sameBytes_any (some ⟨gb, 0, none⟩) A n n n c l l w13 w13.heap.size w.heap.size (rd_blk HBb13.out hlt) (by exact HR.out.below HB13.out)).mono ?_
        rintro e w14 ⟨rfl, rfl⟩
        simp only [decide_true]
        go_wp2_with fail
        refine (left_any w1.heap.size 8192 A9 0 c9 false w13 HR13.out).mono ?_
        rintro e w14 ⟨rfl, rfl⟩
        go_wp2
        go_ret
        exact ⟨rfl, HB13.out⟩
theorem own_all (A : Option Addr) (n c : Nat) (l : List UInt8) (cut : Int) (w : World) (e1 e2 e3 e4 : Addr) (he : EnvG w e1 e2 e3 e4) (hr : Rd w w.heap.size A n l) (h : (Lit.int .i64 cut).wf = true) :
    Calls Tryd.prog 4 #[.slice A n c, .int .i64 cut] w fun e w' => e = .returned (.bool true) ∧ Below w.heap.size w w' := by
  have hh : -9223372036854775808 ≤ cut ∧ cut ≤ 9223372036854775807 := by
    have := Go.bounds_i64 h
    omega
  exact own_any A n c l cut w e1 e2 e3 e4 he hr hh.1 hh.2
end Go.Proofs.YtlggoiablbmmlaaDoor
