/-
  Contracts: strings.IndexRune, IndexAny, ContainsAny at three plain signs, any text; head.Value; head.plain.
-/
import Derived.Test.YthokfopeddaiiaaGreatDoorNa
import Derived.Test.YthokfopeddaiiaaGreatDoorRn
import Derived.Deep.QuietTactic
import Derived.BigQuiet
import Derived.WalkMore
namespace Go.Proofs.YthokfopeddaiiaaGreatDoor
open Go.RowKit Go.Own Go.Own.Hd Go.Own.Rn
def crlS : ByteArray := ⟨#[0, 13, 10]⟩
theorem below_range (w : World) (s : ByteArray) : Below w.heap.size w (w.iter s 0) := (Below.refl _ _).alloc (Nat.le_refl _) _
set_option maxRecDepth 100000 in
theorem rune_err (w : World) : Calls Tryz.prog 105 #[.string crlS, .int .i32 65533] w fun e w' => e = .returned (.int .i64 (-1)) ∧ Below w.heap.size w w' := by
  have n0 : ∀ ty (W : World), W.heap[w.heap.size]? = some (.stringIter crlS 0) → (Instr.next (.pointer (some ⟨w.heap.size, 0, none⟩)) true ty).run Tryz.prog W = .ok (.tuple #[.bool true, .int .i64 0, .int .i32 0]) (W.iterAt w.heap.size crlS 1) := fun ty W hW => Lib.run_next_any_at W w.heap.size crlS 0 ty hW (by decide)
  have n1 : ∀ ty (W : World), W.heap[w.heap.size]? = some (.stringIter crlS 1) → (Instr.next (.pointer (some ⟨w.heap.size, 0, none⟩)) true ty).run Tryz.prog W = .ok (.tuple #[.bool true, .int .i64 1, .int .i32 13]) (W.iterAt w.heap.size crlS 2) := fun ty W hW => Lib.run_next_any_at W w.heap.size crlS 1 ty hW (by decide)
  have n2 : ∀ ty (W : World), W.heap[w.heap.size]? = some (.stringIter crlS 2) → (Instr.next (.pointer (some ⟨w.heap.size, 0, none⟩)) true ty).run Tryz.prog W = .ok (.tuple #[.bool true, .int .i64 2, .int .i32 10]) (W.iterAt w.heap.size crlS 3) := fun ty W hW => Lib.run_next_any_at W w.heap.size crlS 2 ty hW (by decide)
  have n3 : ∀ ty (W : World), W.heap[w.heap.size]? = some (.stringIter crlS 3) → (Instr.next (.pointer (some ⟨w.heap.size, 0, none⟩)) true ty).run Tryz.prog W = .ok (.tuple #[.bool false]) W := fun ty W hW => Lib.run_next_end_at W w.heap.size crlS 3 ty hW (by decide)
  have HN := Lib.hid (And.intro n0 (And.intro n1 (And.intro n2 n3)))
  clear n0 n1 n2 n3
  obtain ⟨S, hS⟩ : ∃ S, crlS = S := ⟨_, rfl⟩
  rw [hS] at HN ⊢
  clear hS
  go_enter Tryz.func105, Tryz.ntmps105
  go_wp2
  go_loopg [5, 6] 4 (fun g _ _ wr => ∃ k : Nat, k + g = 4 ∧ 1 ≤ g ∧ Hid (wr.heap[w.heap.size]? = some (.stringIter S k) ∧ Below w.heap.size w wr))
  case atStart => exact ⟨0, rfl, by decide, Lib.hid ⟨World.iter_heap _ _ _, below_range _ _⟩⟩
  case round =>
    obtain ⟨k, hk, h1, hh⟩ := hrel
    have hk4 : k = 0 ∨ k = 1 ∨ k = 2 ∨ k = 3 := by omega
    clear h1
    rcases hk4 with rfl | rfl | rfl | rfl
    · have hn := fun ty => HN.out.1 ty wr hh.out.1
      have HI := Lib.hid (And.intro (Lib.iterAt_heap wr w.heap.size S 0 1 hh.out.1) (Lib.below_iterAt hh.out.2 (Nat.le_refl _) S 1))
      go_wp2
      go_roundg 3
      case measure => omega
      case rel => exact ⟨1, rfl, by decide, HI⟩
    · have hn := fun ty => HN.out.2.1 ty wr hh.out.1
      have HI := Lib.hid (And.intro (Lib.iterAt_heap wr w.heap.size S 1 2 hh.out.1) (Lib.below_iterAt hh.out.2 (Nat.le_refl _) S 2))
      go_wp2
      go_roundg 2
      case measure => omega
      case rel => exact ⟨2, rfl, by decide, HI⟩
    · have hn := fun ty => HN.out.2.2.1 ty wr hh.out.1
      have HI := Lib.hid (And.intro (Lib.iterAt_heap wr w.heap.size S 2 3 hh.out.1) (Lib.below_iterAt hh.out.2 (Nat.le_refl _) S 3))
      go_wp2
      go_roundg 1
      case measure => omega
      case rel => exact ⟨3, rfl, by decide, HI⟩
    · have hn := fun ty => HN.out.2.2.2 ty wr hh.out.1
      go_wp2
      go_ret
      exact ⟨rfl, hh.out.2⟩
theorem idx_getD (s : ByteArray) (k : Nat) (i : Int) (hi : i = (k : Int)) (hk : k < s.size) (W : World) :
    (Instr.index 9 (.string s) (.int .i64 i)).run Tryz.prog W = .ok (.int .u8 ((s.data.toList.getD k 0).toNat : Int)) W := idx_str Tryz.underlying9 s k i hi hk W
def RunePost (w : World) (e : Ending) (w' : World) : Prop := e = .returned (.int .i64 (-1)) ∧ Below w.heap.size w w'
set_option maxHeartbeats 1000000 in
set_option maxRecDepth 100000 in
theorem rune_no (r : Int) (w : World) (h1 : 128 ≤ r) (h2 : r ≤ 2147483647) : Calls Tryz.prog 105 #[.string crlS, .int .i32 r] w (RunePost w) := by
  by_cases he : r = 65533
  · subst he; exact rune_err w
  obtain ⟨v, hv⟩ : ∃ v, Lib.validRune r = v := ⟨_, rfl⟩
  have hvr := Tryz.utf8_ValidRune r w
  rw [hv] at hvr
  have HV := Lib.hid (hvr.mono fun e w' h => (⟨h.1, h.2.symm⟩ : e = .returned (.bool v) ∧ w = w'))
  have g0 : (0 : Int) ≤ r := by omega
  have g1 : (r == 65533) = false := by rw [beq_eq_false_iff_ne]; exact he
  clear hvr hv he
  rcases v with _ | _
  · obtain ⟨S, hS⟩ : ∃ S, crlS = S := ⟨_, rfl⟩
    rw [hS]
    clear hS
    go_enter Tryz.func105, Tryz.ntmps105
    go_wp2_with ((with_reducible refine HV.out.mono ?_); rintro e w1 ⟨rfl, rfl⟩)
    go_ret
    exact ⟨rfl, Below.refl _ _⟩
  · obtain ⟨b1, b2, b3⟩ := encode_big r h1
    obtain ⟨rs, hrs⟩ : ∃ rs, Utf8.encode r = rs := ⟨_, rfl⟩
    rw [hrs] at b1 b2 b3
    have hconv : ∀ W, (convert 21 9 (.int .i32 r)).run Tryz.prog W = .ok (.string rs) W := fun W => by rw [← hrs]; rfl
    obtain ⟨n, hn⟩ : ∃ n, rs.size = n := ⟨_, rfl⟩
    rw [hn] at b1 b2 b3
    have HN := Lib.hid hn
    obtain ⟨c, hc⟩ : ∃ c, rs.data.toList.getD (n - 1) 0 = c := ⟨_, rfl⟩
    rw [hc] at b3
    have hi2 := idx_getD rs (n - 1) (((n - 1 : Nat)) : Int) rfl (by omega)
    rw [hc] at hi2
    have HI2 := Lib.hid hi2
    have HB3 := Lib.hid b3
    clear hi2 hc hrs b3
    have i1 : ∀ W, (Instr.index 9 (.string crlS) (.int .i64 1)).run Tryz.prog W = .ok (.int .u8 13) W := fun W => idx_getD crlS 1 1 rfl (by decide) W
    have i2 : ∀ W, (Instr.index 9 (.string crlS) (.int .i64 2)).run Tryz.prog W = .ok (.int .u8 10) W := fun W => idx_getD crlS 2 2 rfl (by decide) W
    have s2 : ∀ W, (Instr.slice 9 (.string crlS) (some (.int .i64 2)) none none).run Tryz.prog W = .ok (.string ⟨#[10]⟩) W := fun W => by kernel_rfl
    have s3 : ∀ W, (Instr.slice 9 (.string crlS) (some (.int .i64 3)) none none).run Tryz.prog W = .ok (.string ⟨#[]⟩) W := fun W => by kernel_rfl
    have hsz : crlS.size = 3 := rfl
    have HS := Lib.hid (And.intro i1 (And.intro i2 (And.intro s2 s3)))
    have HZ := Lib.hid hsz
    clear i1 i2 s2 s3 hsz
    obtain ⟨S, hS⟩ : ∃ S, crlS = S := ⟨_, rfl⟩
    rw [hS] at HS HZ ⊢
    clear hS
    have hib : ∀ l : List UInt8, (∀ x ∈ l, x.toNat < 128) → Lib.indexByte l c = -1 := by
      intro l hl
      have hno : l.contains c = false := by
        rw [Bool.eq_false_iff]; intro hm
        have := hl c (by simpa using hm)
        have := HB3.out; omega
      have := Lib.contains_iff_indexByte l c
      rw [hno] at this
      have h0 := of_decide_eq_false this.symm
      have h1 := Lib.indexByte_ge l c
      omega
    have HC2 : ∀ W, Hid (Calls Tryz.prog 114 #[.string ⟨#[10]⟩, .int .u8 (c.toNat : Int)] W fun e w' => e = .returned (.int .i64 (-1)) ∧ w' = W) := fun W => Lib.hid ((Tryz.strings_IndexByte ⟨#[10]⟩ (c.toNat : Int) W).mono fun e w' h => ⟨by
      rw [h.1]
      have : ((c.toNat : Int)).toNat.toUInt8 = c := by simp
      rw [this, hib _ (by simp)], h.2⟩)
    have HC3 : ∀ W, Hid (Calls Tryz.prog 114 #[.string ⟨#[]⟩, .int .u8 (c.toNat : Int)] W fun e w' => e = .returned (.int .i64 (-1)) ∧ w' = W) := fun W => Lib.hid ((Tryz.strings_IndexByte ⟨#[]⟩ (c.toNat : Int) W).mono fun e w' h => ⟨by
      rw [h.1]
      have : ((c.toNat : Int)).toNat.toUInt8 = c := by simp
      rw [this, hib _ (by simp)], h.2⟩)
    have hne13 : ((13 : Int) != (c.toNat : Int)) = true := by rw [bne_iff_ne]; have := HB3.out; omega
    have hne10 : ((10 : Int) != (c.toNat : Int)) = true := by rw [bne_iff_ne]; have := HB3.out; omega
    clear hib
    have n234 : n = 2 ∨ n = 3 ∨ n = 4 := by omega
    clear b1 b2
    obtain ⟨h1, h2, h3, h4⟩ := HS.out
    have hz := HZ.out
    have hn := HN.out
    rcases n234 with rfl | rfl | rfl
    · have hi : ∀ W, (Instr.index 9 (.string rs) (.int .i64 1)).run Tryz.prog W = .ok (.int .u8 (c.toNat : Int)) W := fun W => HI2.out W
      go_enter Tryz.func105, Tryz.ntmps105
      go_wp2_with ((with_reducible refine HV.out.mono ?_); rintro e w1 ⟨rfl, rfl⟩)
      go_step3
      go_wp2
      refine wp_loop_rounds 1 ?_
      rw [rounds_succ]
      go_wp2
      go_step3
      go_wp2
      go_quiet (fail)
      have hb1 := below_drewN (Below.refl w.heap.size w) nq
      generalize w.drewN nq = W1 at hb1 ⊢
      have HB1 := Lib.hid hb1
      clear hb1
      go_wp2
      go_quiet ((exact Calls.quiet_of_same (HC2 _).out))
      have HB2 := Lib.hid (below_drewN HB1.out nq)
      go_wp2
      simp only [Exit.noGoto, Exit.inBlock, Exit.then]
      go_ret
      exact ⟨rfl, HB2.out⟩
    · have hi : ∀ W, (Instr.index 9 (.string rs) (.int .i64 2)).run Tryz.prog W = .ok (.int .u8 (c.toNat : Int)) W := fun W => HI2.out W
      go_enter Tryz.func105, Tryz.ntmps105
      go_wp2_with ((with_reducible refine HV.out.mono ?_); rintro e w1 ⟨rfl, rfl⟩)
      go_step3
      go_wp2
      refine wp_loop_rounds 1 ?_
      rw [rounds_succ]
      go_wp2
      go_step3
      go_wp2
      go_quiet (fail)
      have hb1 := below_drewN (Below.refl w.heap.size w) nq
      generalize w.drewN nq = W1 at hb1 ⊢
      have HB1 := Lib.hid hb1
      clear hb1
      go_wp2
      go_quiet ((exact Calls.quiet_of_same (HC3 _).out))
      have HB2 := Lib.hid (below_drewN HB1.out nq)
      go_wp2
      simp only [Exit.noGoto, Exit.inBlock, Exit.then]
      go_ret
      exact ⟨rfl, HB2.out⟩
    · have hi : ∀ W, (Instr.index 9 (.string rs) (.int .i64 3)).run Tryz.prog W = .ok (.int .u8 (c.toNat : Int)) W := fun W => HI2.out W
      go_enter Tryz.func105, Tryz.ntmps105
      go_wp2_with ((with_reducible refine HV.out.mono ?_); rintro e w1 ⟨rfl, rfl⟩)
      go_step3
      go_wp2
      refine wp_loop_rounds 1 ?_
      rw [rounds_succ]
      go_wp2
      (try simp only [Exit.noGoto, Exit.inBlock, Exit.then])
      go_ret
      exact ⟨rfl, Below.refl _ _⟩
theorem contains_small (x : UInt8) (h : x.toNat < 128) : Lib.indexByte crlS.data.toList x = if crl.contains x then Lib.indexByte crlS.data.toList x else -1 := by
  split
  · rfl
  · rename_i hc
    have := Lib.contains_iff_indexByte crl x
    rw [Bool.eq_false_iff.2 hc] at this
    have h0 := of_decide_eq_false this.symm
    have h1 := Lib.indexByte_ge crl x
    show Lib.indexByte crl x = -1
    omega
set_option maxRecDepth 100000 in
/-- strings.IndexRune at a plain rune. -/
theorem rune_plain (x : UInt8) (w : World) (h : x.toNat < 128) : Calls Tryz.prog 105 #[.string crlS, .int .i32 (x.toNat : Int)] w fun e w' => e = .returned (.int .i64 (Lib.indexByte crlS.data.toList x)) ∧ w = w' := by
  have hc := Tryz.strings_IndexByte crlS (x.toNat : Int) w
  have e : ((x.toNat : Int)).toNat.toUInt8 = x := by simp
  rw [e] at hc
  have HC := Lib.hid (hc.mono fun e w' h => (⟨h.1, h.2.symm⟩ : e = .returned (.int .i64 (Lib.indexByte crlS.data.toList x)) ∧ w = w'))
  have hw : ∀ W, (convert 21 5 (.int .i32 (x.toNat : Int))).run Tryz.prog W = .ok (.int .u8 (x.toNat : Int)) W := fun W => by
    have hx := x.toNat_lt
    have e2 : IntKind.u8.wrap (x.toNat : Int) = (x.toNat : Int) := by
      show ((x.toNat : Int)) % 256 = _
      omega
    simp [convert, go_sem, Tryz.underlying21, Tryz.underlying5, e2]
  clear hc e
  obtain ⟨i, hi⟩ : ∃ i, Lib.indexByte crlS.data.toList x = i := ⟨_, rfl⟩
  rw [hi] at HC ⊢
  clear hi
  obtain ⟨S, hS⟩ : ∃ S, crlS = S := ⟨_, rfl⟩
  rw [hS] at HC ⊢
  clear hS
  obtain ⟨n, hn⟩ : ∃ n, x.toNat = n := ⟨_, rfl⟩
  rw [hn] at HC hw h ⊢
  clear hn
  have h0 : (0 : Int) ≤ (n : Int) := by omega
  have h1 : (n : Int) < 128 := by omega
  go_enter Tryz.func105, Tryz.ntmps105
  go_wp2_with ((with_reducible refine HC.out.mono ?_); rintro e w1 ⟨rfl, rfl⟩)
  go_ret
  exact ⟨rfl, rfl⟩
def AnyPost (v : Int) (w : World) (e : Ending) (w' : World) : Prop := e = .returned (.int .i64 v) ∧ Below w.heap.size w w'
set_option maxHeartbeats 2000000 in
set_option maxRecDepth 100000 in
theorem indexAny_short (s : ByteArray) (w : World) (h8 : s.size ≤ 8) : Calls Tryz.prog 100 #[.string s, .string crlS] w (AnyPost (Lib.indexAny s.data.toList crl) w) := by
  have hemp : crlS.toList.isEmpty = false := by rw [Lib.toList_data]; rfl
  have hsz : crlS.size = 3 := rfl
  have HR := Lib.hid (fun r w h1 h2 => rune_no r w h1 h2)
  have HP := Lib.hid (fun x w h => rune_plain x w h)
  have hsu := Tryz.strings_shouldUseASCIISet (s.size : Int) w
  have h8z : decide ((8 : Int) < (s.size : Int)) = false := decide_eq_false (by omega)
  rw [h8z] at hsu
  have HSU := Lib.hid (hsu.mono fun e w' h => (⟨h.1, h.2.symm⟩ : e = .returned (.bool false) ∧ w = w'))
  clear hsu h8z h8
  have HCon := Lib.hid (fun x => Lib.contains_iff_indexByte crl x)
  have hcrl : crlS.data.toList = crl := rfl
  rw [hcrl] at HP
  clear hcrl
  obtain ⟨S, hS⟩ : ∃ S, crlS = S := ⟨_, rfl⟩
  rw [hS] at hemp hsz HR HP ⊢
  clear hS
  go_enter Tryz.func100, Tryz.ntmps100
  go_wp2_with ((with_reducible refine HSU.out.mono ?_); rintro e w1 ⟨rfl, rfl⟩)
  go_loopg [9, 10] s.size (fun g _ _ wx => ∃ i : Nat, i + g = s.size ∧ Hid (wx.heap[w.heap.size]? = some (.stringIter s i) ∧ Below w.heap.size w wx ∧ Lib.NoAny s.data.toList crl i))
  case atStart => exact ⟨0, by omega, Lib.hid ⟨World.iter_heap _ _ _, below_range _ _, Lib.NoAny.zero _ _⟩⟩
  case round =>
    obtain ⟨i, hig, hh⟩ := hrel
    by_cases hi : i < s.size
    · have hd := decode_any s i hi
      have hnx := fun ty => Lib.run_next_any_at (P := Tryz.prog) wr w.heap.size s i ty hh.out.1 hi
      obtain ⟨r, k, hrk⟩ : ∃ r k, Utf8.decode s i = (r, k) := ⟨_, _, rfl⟩
      rw [hrk] at hd hnx
      simp only at hd hnx
      have HI := Lib.hid (And.intro (Lib.iterAt_heap wr w.heap.size s i (i + k) hh.out.1) (Lib.below_iterAt hh.out.2.1 (Nat.le_refl _) s (i + k)))
      generalize wr.iterAt w.heap.size s (i + k) = W1 at hnx HI
      rcases hd with ⟨hx, he⟩ | ⟨d1, d2, d3, d4, d5⟩
      · obtain ⟨x, hxx⟩ : ∃ x, s.data.toList.getD i 0 = x := ⟨_, rfl⟩
        rw [hxx] at hx he
        injection he with he1 he2
        subst he1 he2
        have hxl : s.data.toList[i]? = some x := by
          have : i < s.data.toList.length := by rw [← Lib.size_eq]; exact hi
          rw [← hxx, List.getD, List.getElem?_eq_getElem this]; rfl
        have HX := Lib.hid hxl
        have hp := HP.out x W1 hx
        have hcon := HCon.out x
        obtain ⟨iv, hiv⟩ : ∃ iv, Lib.indexByte crl x = iv := ⟨_, rfl⟩
        rw [hiv] at hp hcon
        have HPP := Lib.hid hp
        obtain ⟨cb, hcb⟩ : ∃ cb, crl.contains x = cb := ⟨_, rfl⟩
        rw [hcb] at hcon
        have HCB := Lib.hid hcb
        clear hp hiv hcb hxl hxx hx hrk
        rcases cb with _ | _
        · have hlt : ¬ ((0 : Int) ≤ iv) := of_decide_eq_false hcon.symm
          clear hcon
          go_wp2_with ((with_reducible refine HPP.out.mono ?_); rintro e w2 ⟨rfl, rfl⟩)
          go_roundg (s.size - (i + 1))
          case measure => omega
          case rel => exact ⟨i + 1, by omega, Lib.hid ⟨HI.out.1, HI.out.2, hh.out.2.2.succ HX.out HCB.out⟩⟩
        · have hge : (0 : Int) ≤ iv := of_decide_eq_true hcon.symm
          clear hcon
          go_wp2_with ((with_reducible refine HPP.out.mono ?_); rintro e w2 ⟨rfl, rfl⟩)
          go_ret
          exact ⟨by rw [Lib.indexAny_hit hh.out.2.2 HX.out HCB.out]; rfl, HI.out.2⟩
      · have HPP := Lib.hid (HR.out (r : Int) W1 (by omega) (by omega))
        have HN := Lib.hid (noAny_more hh.out.2.2 k fun j hj _ => d5 j hj)
        clear hrk d1 d2 d5
        have hm1 : ¬ ((0 : Int) ≤ -1) := by omega
        go_wp2_with ((with_reducible refine HPP.out.mono ?_); rintro e w2 ⟨rfl, g2⟩; have G2 := Lib.hid g2; clear g2)
        go_roundg (s.size - (i + k))
        case measure => omega
        case rel => exact ⟨i + k, by omega, Lib.hid ⟨(G2.out.block _ (Array.getElem?_eq_some_iff.1 HI.out.1).1).trans HI.out.1, HI.out.2.trans (G2.out.mono HI.out.2.size), HN.out⟩⟩
    · have hnx := fun ty => Lib.run_next_end_at (P := Tryz.prog) wr w.heap.size s i ty hh.out.1 hi
      obtain rfl : i = s.size := by omega
      go_wp2
      go_ret
      exact ⟨by rw [Lib.indexAny_none (by rw [← Lib.size_eq]; exact hh.out.2.2)]; rfl, hh.out.2.1⟩
theorem containsAny3 (s : ByteArray) (w : World) (hs : s.size ≤ 1000000000) : Calls Tryz.prog 78 #[.string s, .string crlS] w fun e w' => e = .returned (.bool (Lib.containsAny s.data.toList crl)) ∧ Below w.heap.size w w' := by
  have hc : Calls Tryz.prog 100 #[.string s, .string crlS] w (AnyPost (Lib.indexAny s.data.toList crl) w) := by
    by_cases h8 : s.size ≤ 8
    · exact indexAny_short s w h8
    · refine (Tryz.strings_IndexAny_long (fun w => by kernel_rfl) s crlS w (by decide) (by omega) (by omega) (by decide) (fun j b hb => by
        rcases j with _ | _ | _ | j <;> simp [crlS] at hb <;> subst hb <;> decide)).mono ?_
      rintro e w1 ⟨h1, h2⟩
      refine ⟨h1, ?_⟩
      rw [h2]
      exact ((Below.refl _ _).alloc (Nat.le_refl _) _).alloc (by simp) _
  have HC := Lib.hid hc
  clear hc
  obtain ⟨v, hv⟩ : ∃ v, Lib.indexAny s.data.toList crl = v := ⟨_, rfl⟩
  have hb : Lib.containsAny s.data.toList crl = decide (0 ≤ v) := by rw [← hv]; rfl
  rw [hb]
  rw [hv] at HC
  clear hb hv
  obtain ⟨S, hS⟩ : ∃ S, crlS = S := ⟨_, rfl⟩
  rw [hS] at HC ⊢
  clear hS
  go_enter Tryz.func78, Tryz.ntmps78
  go_wp2_with ((with_reducible refine HC.out.mono ?_); rintro e w1 ⟨rfl, g1⟩; have G1 := Lib.hid g1; clear g1)
  go_ret
  exact ⟨rfl, G1.out⟩
end Go.Proofs.YthokfopeddaiiaaGreatDoor
