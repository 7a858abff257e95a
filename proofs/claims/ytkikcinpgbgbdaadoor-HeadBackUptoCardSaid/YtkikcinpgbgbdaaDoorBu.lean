/-
  Contracts: head.Build, head.BuildAnswer: a list that is built, or ErrHead; what is built is opened as it was.
-/
import Derived.Test.YtkikcinpgbgbdaaDoorCp
import Derived.Test.YtkikcinpgbgbdaaDoorHq
import Derived.Test.YtkikcinpgbgbdaaDoorMo
import Derived.BigQuiet
import Derived.Lib.ItoaLen
namespace Go.Proofs.YtkikcinpgbgbdaaDoor
open Go.RowKit Go.Own Go.Own.Hd Go.Own.Fn Go.WideShapes
attribute [local go_sem] Oper.semAt_some
/-- While a list is built. -/
structure BuJ (w0 : World) (v : Value) (l : List HdrV) (W : World) : Prop where
  bel : Below w0.heap.size w0 W
  own : Hw W w0.heap.size v l
theorem BuJ.app {w0 W w4 : World} {v v4 : Value} {l m : List HdrV} {o : Obj} (h : BuJ w0 v l W) (hown : Hw w4 w0.heap.size v4 (l ++ m)) (hg : (W.alloc o).grownBy w4 v.ownBlock) : BuJ w0 v4 (l ++ m) w4 :=
  ⟨(h.bel.alloc h.bel.size o).grown hg (by have := h.bel.size; simp; omega) (fun j e => (h.own.lt j e).1), hown⟩
theorem BuJ.app0 {w0 W w4 : World} {v v4 : Value} {l m : List HdrV} (h : BuJ w0 v l W) (hown : Hw w4 w0.heap.size v4 (l ++ m)) (hg : W.grownBy w4 v.ownBlock) : BuJ w0 v4 (l ++ m) w4 :=
  ⟨h.bel.grown hg h.bel.size (fun j e => (h.own.lt j e).1), hown⟩
theorem BuJ.below {w0 W W' : World} {v : Value} {l : List HdrV} (h : BuJ w0 v l W) (hb : Below W.heap.size W W') : BuJ w0 v l W' :=
  ⟨h.bel.trans (hb.mono h.bel.size), h.own.below hb⟩
theorem szs_one (n : List UInt8) (v : ByteArray) (hn : n.length ≤ 100) (hv : v.size ≤ 1000000000) : Szs [colH n v] := fun x hx => by
  rw [List.mem_singleton] at hx
  subst hx
  refine ⟨?_, hv⟩
  show (⟨n.toArray⟩ : ByteArray).size ≤ _
  rw [Lib.size_eq]
  simp
  omega
theorem szs_app {a b : List HdrV} (ha : Szs a) (hb : Szs b) : Szs (a ++ b) := fun x hx => by
  rcases List.mem_append.1 hx with hx | hx
  · exact ha x hx
  · exact hb x hx
def BuPost (e1 : Addr) (w : World) (M S U P : ByteArray) (R : List HdrV) (e : Ending) (w' : World) : Prop :=
  Below w.heap.size w w' ∧ (e = .returned (.tuple #[.slice none 0 0, errH e1]) ∨ ∃ A' n' c', e = .returned (.tuple #[.slice A' n' c', .nilIface]) ∧ n' ≤ c' ∧ Hw w' w.heap.size (.slice A' n' c') (preL M S U P ++ R) ∧ openS rules4 (preL M S U P ++ R) req0 = some (R, ⟨M, S, U, P⟩))
set_option maxHeartbeats 4000000 in
set_option maxRecDepth 100000 in
theorem build_any (M S U P : ByteArray) (AR : Option Addr) (n c : Nat) (R : List HdrV) (w : World) {e1 e2 e3 : Addr} (he : EnvH w e1 e2 e3) (hn : n ≤ 100) (hr : Hr w AR n R) (hz : Szs R)
    (hs : M.size ≤ 1000000000 ∧ S.size ≤ 1000000000 ∧ U.size ≤ 1000000000 ∧ P.size ≤ 1000000000) :
    Calls Tryd.prog 12 #[.agg #[.string M, .string S, .string U, .string P, .slice AR n c]] w (BuPost e1 w M S U P R) := by
  have HE := Lib.hid he
  have HR := Lib.hid hr
  have HRL := Lib.hid hr.1
  have HZ := Lib.hid (show Szs (preL M S U P) from by
    have z1 := szs_one colM M (by decide) hs.1
    have z2 := szs_one colS S (by decide) hs.2.1
    have z3 := szs_one colA U (by decide) hs.2.2.1
    have z4 := szs_one colP P (by decide) hs.2.2.2
    unfold preL
    refine szs_app (szs_app (szs_app z1 z2) ?_) z4
    cases U.toList.isEmpty
    · exact z3
    · exact fun x hx => nomatch hx)
  have HZR := Lib.hid hz
  have HN := Lib.hid hn
  clear he hr hz hs
  go_enter Tryd.func12, Tryd.ntmps12
  go_upto_region 1 with fail
  have HB0 := Lib.hid (show Below w.heap.size w (w.alloc (.cells #[.string M, .string S, .string U, .string P, .slice AR n c] 29)) from (Below.refl _ _).alloc (Nat.le_refl _) _)
  have HK0 := Lib.hid (Blk.new w 29 #[.string M, .string S, .string U, .string P, .slice AR n c])
  have HSz := Lib.hid (show (w.alloc (.cells #[.string M, .string S, .string U, .string P, .slice AR n c] 29)).heap.size = w.heap.size + 1 by simp)
  generalize w.alloc (.cells #[.string M, .string S, .string U, .string P, .slice AR n c] 29) = w0 at HB0 HK0 HSz ⊢
  have HKf := Lib.hid (fun W (hW : Below w0.heap.size w0 W) => (show W.cell? ⟨w.heap.size, 0, none⟩ = some (.string M) ∧ W.cell? ⟨w.heap.size, 1, none⟩ = some (.string S) ∧ W.cell? ⟨w.heap.size, 2, none⟩ = some (.string U) ∧ W.cell? ⟨w.heap.size, 3, none⟩ = some (.string P) ∧ W.cell? ⟨w.heap.size, 4, none⟩ = some (.slice AR n c) from
    have h := HK0.out.below hW HK0.out.lt
    ⟨h.cell 0, h.cell 1, h.cell 2, h.cell 3, h.cell 4⟩))
  obtain ⟨k0, k1, k2, k3, k4⟩ := HKf.out w0 (Below.refl _ _)
  go_upto_region 2 with fail
  have HJ1 := Lib.hid (show BuJ w0 (.slice (some ⟨w0.heap.size, 0, none⟩) 2 2) [colH colM M, colH colS S] (w0.alloc (.cells #[.string ⟨#[58, 109, 101, 116, 104, 111, 100]⟩, .string M, .bool false, .string ⟨#[58, 115, 99, 104, 101, 109, 101]⟩, .string S, .bool false] 26)) from ⟨(Below.refl _ _).alloc (Nat.le_refl _) _, hw_lit w0 [colH colM M, colH colS S] (by simp)⟩)
  generalize w0.alloc (.cells #[.string ⟨#[58, 109, 101, 116, 104, 111, 100]⟩, .string M, .bool false, .string ⟨#[58, 115, 99, 104, 101, 109, 101]⟩, .string S, .bool false] 26) = w1 at HJ1 ⊢
  clear k0 k1 k2 k3 k4
  obtain ⟨_, _, k2, k3, k4⟩ := HKf.out w1 HJ1.out.bel
  obtain ⟨q, hq⟩ : ∃ q, U.toList.isEmpty = q := ⟨_, rfl⟩
  have HQ := Lib.hid hq
  rcases q with _ | _
  · have HO3 := Lib.hid (show Hw (w1.alloc (.cells #[.string ⟨#[58, 97, 117, 116, 104, 111, 114, 105, 116, 121]⟩, .string U, .bool false] 26)) w0.heap.size (.slice (some ⟨w0.heap.size, 0, none⟩) 2 2) [colH colM M, colH colS S] from HJ1.out.own.below ((Below.refl _ _).alloc (Nat.le_refl _) _))
    have HLt3 := Lib.hid (show Hr (w1.alloc (.cells #[.string ⟨#[58, 97, 117, 116, 104, 111, 114, 105, 116, 121]⟩, .string U, .bool false] 26)) (some ⟨w1.heap.size, 0, none⟩) 1 [colH colA U] from Hw.hr (hw_lit w1 [colH colA U] (by simp)))
    have HLe3 := Lib.hid (show w0.heap.size ≤ (w1.alloc (.cells #[.string ⟨#[58, 97, 117, 116, 104, 111, 114, 105, 116, 121]⟩, .string U, .bool false] 26)).heap.size from by have := HJ1.out.bel.size; simp; omega)
    go_wp2_with (first
      | (at_builtin
         refine wpList_app_hg _ rfl (.tmp 17) (.tmp 21) rfl w0.heap.size (.slice (some ⟨w0.heap.size, 0, none⟩) 2 2) [colH colM M, colH colS S] rfl HO3.out (some ⟨w1.heap.size, 0, none⟩) 1 1 [colH colA U] rfl HLt3.out (by simp) HLe3.out ?_
         intro v3 w3 hown hg hv
         have HJ3 := Lib.hid (HJ1.out.app hown hg)
         clear hown hg hv
         obtain ⟨_, _, _, k33, k43⟩ := HKf.out w3 HJ3.out.bel
         have HO4 := Lib.hid (show Hw (w3.alloc (.cells #[.string ⟨#[58, 112, 97, 116, 104]⟩, .string P, .bool false] 26)) w0.heap.size v3 ([colH colM M, colH colS S] ++ [colH colA U]) from HJ3.out.own.below ((Below.refl _ _).alloc (Nat.le_refl _) _))
         have HLt4 := Lib.hid (show Hr (w3.alloc (.cells #[.string ⟨#[58, 112, 97, 116, 104]⟩, .string P, .bool false] 26)) (some ⟨w3.heap.size, 0, none⟩) 1 [colH colP P] from Hw.hr (hw_lit w3 [colH colP P] (by simp)))
         have HLe4 := Lib.hid (show w0.heap.size ≤ (w3.alloc (.cells #[.string ⟨#[58, 112, 97, 116, 104]⟩, .string P, .bool false] 26)).heap.size from by have := HJ3.out.bel.size; simp; omega))
      | (at_builtin
         refine wpList_app_hg _ rfl (.tmp 23) (.tmp 27) rfl w0.heap.size v3 ([colH colM M, colH colS S] ++ [colH colA U]) rfl HO4.out (some ⟨w3.heap.size, 0, none⟩) 1 1 [colH colP P] rfl HLt4.out (by simp) HLe4.out ?_
         intro v4 w4 hown hg hv
         have HJ4 := Lib.hid (HJ3.out.app hown hg)
         clear hown hg hv
         obtain ⟨_, _, _, k34, k44⟩ := HKf.out w4 HJ4.out.bel
         skip)
      | (at_builtin
         refine wpList_app_hg _ rfl (.tmp 29) (.tmp 31) rfl w0.heap.size v4 ([colH colM M, colH colS S] ++ [colH colA U] ++ [colH colP P]) rfl HJ4.out.own AR n c R rfl ((HR.out.below HB0.out).below HJ4.out.bel) (by have := HN.out; have := HRL.out; simp; omega) HJ4.out.bel.size ?_
         intro v5 w5 hown hg hv
         have HJ5 := Lib.hid (HJ4.out.app0 hown hg)
         clear hown hg hv
         have HJ6 := Lib.hid (show BuJ w0 v5 (preL M S U P ++ R) w5 from by
           have h := HJ5.out
           unfold preL
           rw [HQ.out]
           simpa using h)
         clear HJ5
         obtain ⟨A6, c6, e6, hc6, _⟩ := HJ6.out.own.form
         obtain ⟨n6, hn6⟩ : ∃ n6, (preL M S U P ++ R).length = n6 := ⟨_, rfl⟩
         have hn6b : n6 ≤ 1000 := by
           rw [← hn6, List.length_append, HRL.out]
           unfold preL
           rw [HQ.out]
           have := HN.out
           simp
           omega
         rw [hn6] at e6 hc6
         subst e6
         have HN6 := Lib.hid (And.intro hn6b hc6)
         clear hn6b hc6 hn6))
    refine (open_any A6 n6 c6 (preL M S U P ++ R) w5 (HE.out.below (HB0.out.trans (HJ6.out.bel.mono HB0.out.size)) HE.out.room) (by have := HN6.out; omega) HN6.out.2 HJ6.out.own.hr (szs_app HZ.out HZR.out)).mono ?_
    rintro e w7 ⟨g7, h7⟩
    have HJ7 := Lib.hid (HJ6.out.below g7)
    clear g7
    have HB7 := Lib.hid (HB0.out.trans (HJ7.out.bel.mono HB0.out.size))
    rcases h7 with ⟨h7, rfl⟩ | ⟨rest, s7, h7, A7, c7, rfl, hw7⟩
    · have q4 := (HE.out.below (HB7.out.alloc HB7.out.size (.cells #[.string ⟨#[]⟩, .string ⟨#[]⟩, .string ⟨#[]⟩, .string ⟨#[]⟩, .slice none 0 0] 29)) HE.out.room).head
      unfold errH
      go_wp2_with fail
      go_quiet (fail)
      go_wp2
      go_ret2
      exact ⟨below_drewN (HB7.out.alloc HB7.out.size _) _, .inl rfl⟩
    · have HH7 := Lib.hid h7
      obtain ⟨k7, hk7⟩ : ∃ k, rest.length = k := ⟨_, rfl⟩
      rw [hk7] at hw7 ⊢
      obtain ⟨_, _, _, _, k4⟩ := HKf.out (w7.alloc (.cells #[.string s7.m, .string s7.s, .string s7.a, .string s7.p, .slice A7 k7 c7] 29)) (HJ7.out.bel.alloc HJ7.out.bel.size _)
      by_cases hkn : k7 = n
      · subst hkn
        have hkk : ((k7 : Int) == (k7 : Int)) = true := by simp
        go_wp2
        go_ret2
        have hres := req_built HH7.out (by rw [hk7, HRL.out])
        refine ⟨HB7.out.alloc HB7.out.size _, .inr ⟨_, _, _, rfl, HN6.out.2, (HJ7.out.own.base HB0.out.size).below ((Below.refl _ _).alloc (Nat.le_refl _) _), ?_⟩⟩
        rw [HH7.out, hres.1, hres.2]
      · have hkk : ((k7 : Int) == (n : Int)) = false := by rw [beq_eq_false_iff_ne]; omega
        have q4 := (HE.out.below (HB7.out.alloc HB7.out.size (.cells #[.string s7.m, .string s7.s, .string s7.a, .string s7.p, .slice A7 k7 c7] 29)) HE.out.room).head
        clear hw7 HH7 h7
        go_wp2
        go_quiet (fail)
        go_wp2
        go_ret2
        exact ⟨below_drewN (HB7.out.alloc HB7.out.size _) _, .inl rfl⟩
  · have HO4 := Lib.hid (show Hw (w1.alloc (.cells #[.string ⟨#[58, 112, 97, 116, 104]⟩, .string P, .bool false] 26)) w0.heap.size (.slice (some ⟨w0.heap.size, 0, none⟩) 2 2) [colH colM M, colH colS S] from HJ1.out.own.below ((Below.refl _ _).alloc (Nat.le_refl _) _))
    have HLt4 := Lib.hid (show Hr (w1.alloc (.cells #[.string ⟨#[58, 112, 97, 116, 104]⟩, .string P, .bool false] 26)) (some ⟨w1.heap.size, 0, none⟩) 1 [colH colP P] from Hw.hr (hw_lit w1 [colH colP P] (by simp)))
    have HLe4 := Lib.hid (show w0.heap.size ≤ (w1.alloc (.cells #[.string ⟨#[58, 112, 97, 116, 104]⟩, .string P, .bool false] 26)).heap.size from by have := HJ1.out.bel.size; simp; omega)
    go_wp2_with (first
      | (at_builtin
         refine wpList_app_hg _ rfl (.tmp 23) (.tmp 27) rfl w0.heap.size (.slice (some ⟨w0.heap.size, 0, none⟩) 2 2) [colH colM M, colH colS S] rfl HO4.out (some ⟨w1.heap.size, 0, none⟩) 1 1 [colH colP P] rfl HLt4.out (by simp) HLe4.out ?_
         intro v4 w4 hown hg hv
         have HJ4 := Lib.hid (HJ1.out.app hown hg)
         clear hown hg hv
         obtain ⟨_, _, _, k34, k44⟩ := HKf.out w4 HJ4.out.bel
         skip)
      | (at_builtin
         refine wpList_app_hg _ rfl (.tmp 29) (.tmp 31) rfl w0.heap.size v4 ([colH colM M, colH colS S] ++ [colH colP P]) rfl HJ4.out.own AR n c R rfl ((HR.out.below HB0.out).below HJ4.out.bel) (by have := HN.out; have := HRL.out; simp; omega) HJ4.out.bel.size ?_
         intro v5 w5 hown hg hv
         have HJ5 := Lib.hid (HJ4.out.app0 hown hg)
         clear hown hg hv
         have HJ6 := Lib.hid (show BuJ w0 v5 (preL M S U P ++ R) w5 from by
           have h := HJ5.out
           unfold preL
           rw [HQ.out]
           simpa using h)
         clear HJ5
         obtain ⟨A6, c6, e6, hc6, _⟩ := HJ6.out.own.form
         obtain ⟨n6, hn6⟩ : ∃ n6, (preL M S U P ++ R).length = n6 := ⟨_, rfl⟩
         have hn6b : n6 ≤ 1000 := by
           rw [← hn6, List.length_append, HRL.out]
           unfold preL
           rw [HQ.out]
           have := HN.out
           simp
           omega
         rw [hn6] at e6 hc6
         subst e6
         have HN6 := Lib.hid (And.intro hn6b hc6)
         clear hn6b hc6 hn6))
    refine (open_any A6 n6 c6 (preL M S U P ++ R) w5 (HE.out.below (HB0.out.trans (HJ6.out.bel.mono HB0.out.size)) HE.out.room) (by have := HN6.out; omega) HN6.out.2 HJ6.out.own.hr (szs_app HZ.out HZR.out)).mono ?_
    rintro e w7 ⟨g7, h7⟩
    have HJ7 := Lib.hid (HJ6.out.below g7)
    clear g7
    have HB7 := Lib.hid (HB0.out.trans (HJ7.out.bel.mono HB0.out.size))
    rcases h7 with ⟨h7, rfl⟩ | ⟨rest, s7, h7, A7, c7, rfl, hw7⟩
    · have q4 := (HE.out.below (HB7.out.alloc HB7.out.size (.cells #[.string ⟨#[]⟩, .string ⟨#[]⟩, .string ⟨#[]⟩, .string ⟨#[]⟩, .slice none 0 0] 29)) HE.out.room).head
      unfold errH
      go_wp2_with fail
      go_quiet (fail)
      go_wp2
      go_ret2
      exact ⟨below_drewN (HB7.out.alloc HB7.out.size _) _, .inl rfl⟩
    · have HH7 := Lib.hid h7
      obtain ⟨k7, hk7⟩ : ∃ k, rest.length = k := ⟨_, rfl⟩
      rw [hk7] at hw7 ⊢
      obtain ⟨_, _, _, _, k4⟩ := HKf.out (w7.alloc (.cells #[.string s7.m, .string s7.s, .string s7.a, .string s7.p, .slice A7 k7 c7] 29)) (HJ7.out.bel.alloc HJ7.out.bel.size _)
      by_cases hkn : k7 = n
      · subst hkn
        have hkk : ((k7 : Int) == (k7 : Int)) = true := by simp
        go_wp2
        go_ret2
        have hres := req_built HH7.out (by rw [hk7, HRL.out])
        refine ⟨HB7.out.alloc HB7.out.size _, .inr ⟨_, _, _, rfl, HN6.out.2, (HJ7.out.own.base HB0.out.size).below ((Below.refl _ _).alloc (Nat.le_refl _) _), ?_⟩⟩
        rw [HH7.out, hres.1, hres.2]
      · have hkk : ((k7 : Int) == (n : Int)) = false := by rw [beq_eq_false_iff_ne]; omega
        have q4 := (HE.out.below (HB7.out.alloc HB7.out.size (.cells #[.string s7.m, .string s7.s, .string s7.a, .string s7.p, .slice A7 k7 c7] 29)) HE.out.room).head
        clear hw7 HH7 h7
        go_wp2
        go_quiet (fail)
        go_wp2
        go_ret2
        exact ⟨below_drewN (HB7.out.alloc HB7.out.size _) _, .inl rfl⟩
def BaPost (e1 : Addr) (w : World) (st : Int) (R : List HdrV) (e : Ending) (w' : World) : Prop :=
  Below w.heap.size w w' ∧ (e = .returned (.tuple #[.slice none 0 0, errH e1]) ∨ ∃ A' n' c', e = .returned (.tuple #[.slice A' n' c', .nilIface]) ∧ n' ≤ c' ∧ n' = R.length + 1 ∧ Hw w' w.heap.size (.slice A' n' c') ([colH colT (staT st)] ++ R) ∧ openS rules1 ([colH colT (staT st)] ++ R) 0 = some (R, st))
set_option maxHeartbeats 4000000 in
set_option maxRecDepth 100000 in
theorem buildAnswer_any (st : Int) (AR : Option Addr) (n c : Nat) (R : List HdrV) (w : World) {e1 e2 e3 : Addr} (he : EnvH w e1 e2 e3) (hn : n ≤ 100) (hr : Hr w AR n R) (hz : Szs R)
    (h1 : -9223372036854775808 ≤ st) (h2 : st ≤ 9223372036854775807) :
    Calls Tryd.prog 14 #[.agg #[.int .i64 st, .slice AR n c]] w (BaPost e1 w st R) := by
  have HE := Lib.hid he
  have HR := Lib.hid hr
  have HRL := Lib.hid hr.1
  have HZ := Lib.hid (szs_one colT (staT st) (by decide) (by
    unfold staT
    rw [Lib.size_eq]
    have := Lib.itoa_length_le st h1 h2
    simp
    omega))
  have HZR := Lib.hid hz
  have HN := Lib.hid hn
  have HI := Lib.hid (fun W (hE : EnvH W e1 e2 e3) => itoa_any st W h1 h2 hE)
  clear he hr hz h1 h2
  go_enter Tryd.func14, Tryd.ntmps14
  go_upto_region 1 with fail
  have HB0 := Lib.hid (show Below w.heap.size w (w.alloc (.cells #[.int .i64 st, .slice AR n c] 35)) from (Below.refl _ _).alloc (Nat.le_refl _) _)
  have HK0 := Lib.hid (Blk.new w 35 #[.int .i64 st, .slice AR n c])
  generalize w.alloc (.cells #[.int .i64 st, .slice AR n c] 35) = w0 at HB0 HK0 ⊢
  have HKf := Lib.hid (fun W (hW : Below w0.heap.size w0 W) => (show W.cell? ⟨w.heap.size, 0, none⟩ = some (.int .i64 st) ∧ W.cell? ⟨w.heap.size, 1, none⟩ = some (.slice AR n c) from
    have h := HK0.out.below hW HK0.out.lt
    ⟨h.cell 0, h.cell 1⟩))
  obtain ⟨k0, k1⟩ := HKf.out w0 (Below.refl _ _)
  obtain ⟨T, hT⟩ : ∃ T, (⟨(Lib.itoa st).toArray⟩ : ByteArray) = T := ⟨_, rfl⟩
  have HT := Lib.hid hT
  rw [hT] at HI
  clear hT
  go_region_held3 (fun w' => w'.cell? ⟨w.heap.size, 0, none⟩ = some (.int .i64 st) ∧ w'.cell? ⟨w.heap.size, 1, none⟩ = some (.slice AR n c)) (first | exact ⟨k0, k1⟩ | exact HKf.out _ HJ4.out.bel | exact HKf.out _ (HB2.out.alloc HB2.out.size _) | exact HKf.out _ HB2.out) (first
    | (go_simp; go_at_call 24; refine (HI.out _ (by exact HE.out.below (HB0.out.trans ((below_drewN (Below.refl w0.heap.size w0) 1).mono HB0.out.size)) HE.out.room)).mono ?_; rintro e w2 ⟨rfl, g2⟩; have HB2 := Lib.hid (Below.trans (below_drewN (Below.refl w0.heap.size w0) 1) g2); clear g2)
    | (refine step_app2 _ (by rfl) (.tmp 11) (.tmp 13) (by rfl) w0.heap.size (.slice (some ⟨w2.heap.size, 0, none⟩) 1 1) [colH colT T] (by rfl) ((hw_lit w2 [colH colT T] (by simp)).base HB2.out.size) AR n c R (by rfl) ((HR.out.below HB0.out).below (HB2.out.alloc HB2.out.size _)) (by have := HN.out; simp; omega) (by have := HB2.out.size; simp; omega) ?_; intro v4 w4 hown hg hv; have HJ4 := Lib.hid (show BuJ w0 v4 ([colH colT T] ++ R) w4 from ⟨(HB2.out.alloc HB2.out.size _).grown hg (by have := HB2.out.size; simp; omega) (fun k e => by have := HB2.out.size; simp [Value.ownBlock] at e; omega), hown⟩); clear hown hg hv)
    | fail)
  all_goals
    clear k0 k1
    obtain ⟨A6, c6, e6, hc6, _⟩ := HJ4.out.own.form
    obtain ⟨n6, hn6⟩ : ∃ n6, ([colH colT T] ++ R).length = n6 := ⟨_, rfl⟩
    have hn6c : n6 = R.length + 1 := by rw [← hn6]; simp
    have hn6b : n6 ≤ 1000 := by
      rw [hn6c, HRL.out]
      have := HN.out
      omega
    rw [hn6] at e6 hc6
    subst e6
    have HN6 := Lib.hid (And.intro hn6b (And.intro hc6 hn6c))
    clear hn6b hc6 hn6 hn6c HB2
    go_wp2_with fail
    refine (openAnswer_any A6 n6 c6 ([colH colT T] ++ R) w4 (HE.out.below (HB0.out.trans (HJ4.out.bel.mono HB0.out.size)) HE.out.room) (by have := HN6.out; omega) HN6.out.2.1 HJ4.out.own.hr (szs_app (by rw [← HT.out]; exact HZ.out) HZR.out)).mono ?_
    rintro e w7 ⟨g7, h7⟩
    have HJ7 := Lib.hid (HJ4.out.below g7)
    clear g7
    have HB7 := Lib.hid (HB0.out.trans (HJ7.out.bel.mono HB0.out.size))
    rcases h7 with ⟨h7, rfl⟩ | ⟨rest, s7, h7, A7, c7, rfl, hw7⟩
    · have q4 := (HE.out.below (HB7.out.alloc HB7.out.size (.cells #[.int .i64 0, .slice none 0 0] 35)) HE.out.room).head
      unfold errH
      go_wp2_with fail
      go_quiet (fail)
      go_wp2
      go_ret2
      exact ⟨below_drewN (HB7.out.alloc HB7.out.size _) _, .inl rfl⟩
    · have HH7 := Lib.hid h7
      obtain ⟨k7, hk7⟩ : ∃ k, rest.length = k := ⟨_, rfl⟩
      rw [hk7] at hw7 ⊢
      obtain ⟨_, k4⟩ := HKf.out (w7.alloc (.cells #[.int .i64 s7, .slice A7 k7 c7] 35)) (HJ7.out.bel.alloc HJ7.out.bel.size _)
      by_cases hkn : k7 = n
      · subst hkn
        have hkk : ((k7 : Int) == (k7 : Int)) = true := by simp
        go_wp2
        go_ret2
        have h8 := HH7.out
        rw [← HT.out] at h8
        have hres := ans_built (n := st) h8 (by rw [hk7, HRL.out])
        have h9 := (HJ7.out.own.base HB0.out.size).below ((Below.refl _ _).alloc (Nat.le_refl _) (.cells #[.int .i64 s7, .slice A7 k7 c7] 35))
        rw [← HT.out] at h9
        refine ⟨HB7.out.alloc HB7.out.size _, .inr ⟨_, _, _, rfl, HN6.out.2.1, HN6.out.2.2, h9, ?_⟩⟩
        show openS rules1 ([colH colT ⟨(Lib.itoa st).toArray⟩] ++ R) 0 = _
        rw [h8, hres.1, hres.2]
      · have hkk : ((k7 : Int) == (n : Int)) = false := by rw [beq_eq_false_iff_ne]; omega
        have q4 := (HE.out.below (HB7.out.alloc HB7.out.size (.cells #[.int .i64 s7, .slice A7 k7 c7] 35)) HE.out.room).head
        clear hw7 HH7 h7
        go_wp2
        go_quiet (fail)
        go_wp2
        go_ret2
        exact ⟨below_drewN (HB7.out.alloc HB7.out.size _) _, .inl rfl⟩
end Go.Proofs.YtkikcinpgbgbdaaDoor
