/-
  Contracts: the function of the rule of answers; head.OpenAnswer.
-/
import Derived.Test.YtkikcinpgbgbdaaDoorOp
import Derived.Lib.AtoiAllCases
import Derived.Lib.AppendIntMem
import Derived.Lib.AtoiErrMem
namespace Go.Own.Hd
def ansCells (s : Int) : Array Value := #[.int .i64 s, .slice none 0 0]
def colT : List UInt8 := [58, 115, 116, 97, 116, 117, 115]
def statF (v : ByteArray) (_ : Int) : Bool × Int :=
  match Lib.atoiAll v.data.toList with
  | .ok n => (decide (v.size = 3) && decide (Lib.itoa n = v.data.toList) && decide (100 ≤ n) && decide (n ≤ 599), n)
  | .range => (false, Lib.atoiSat v.data.toList)
  | _ => (false, 0)
def takeT : RuleF Int := ⟨colT, true, statF⟩
def rules1 : List (RuleF Int) := [takeT]
end Go.Own.Hd
namespace Go.Proofs.YtkikcinpgbgbdaaDoor
open Go.RowKit Go.Own Go.Own.Hd Go.Own.Fn Go.WideShapes
theorem itoa_any (n : Int) (w : World) (h1 : -9223372036854775808 ≤ n) (h2 : n ≤ 9223372036854775807) {e1 e2 e3 : Addr} (he : EnvH w e1 e2 e3) :
    Calls Tryd.prog 24 #[.int .i64 n] w fun e w' => e = .returned (.string ⟨(Lib.itoa n).toArray⟩) ∧ Below w.heap.size w w' := by
  refine (Tryd.strconv_Itoa n h1 h2 w he.pow).mono ?_
  rintro e w' ⟨rfl, k, os, rfl⟩
  exact ⟨rfl, Lib.below_grow w.heap.size w (Nat.le_refl _) k os⟩
/-- strconv.Atoi, any text. -/
theorem atoi_any (v : ByteArray) (w : World) (hv : v.size ≤ 1000000000) {e1 e2 e3 : Addr} (he : EnvH w e1 e2 e3) :
    Calls Tryd.prog 23 #[.string v] w fun e w' => (∃ ev, e = .returned (.tuple #[.int .i64 (statF v 0).2, ev]) ∧ ((∃ n, Lib.atoiAll v.data.toList = .ok n ∧ ev = .nilIface) ∨ ((∀ n, Lib.atoiAll v.data.toList ≠ .ok n) ∧ ∃ N, ev = .iface 82 (.pointer (some ⟨N, 0, none⟩))))) ∧ Below w.heap.size w w' := by
  unfold statF
  rcases h : Lib.atoiAll v.data.toList with n | _ | _
  · refine (Tryd.strconv_Atoi_ok v (by omega) n h w).mono ?_
    rintro e w' ⟨rfl, hw⟩
    refine ⟨⟨_, rfl, .inl ⟨n, rfl, rfl⟩⟩, ?_⟩
    rcases hw with rfl | ⟨t, rfl⟩
    · exact Below.refl _ _
    · exact Lib.bytesWorld_below _ _ _
  · refine (Any.strconv_Atoi_syntax Tryd.laysC172 v (by omega) h _ w he.synt (.inr ⟨_, _, rfl⟩)).mono ?_
    rintro e w' ⟨N, rfl, _, _, hb⟩
    exact ⟨⟨_, rfl, .inr ⟨fun n => by simp, N, rfl⟩⟩, hb⟩
  · refine (Tryd.strconv_Atoi_range v (by omega) h _ w he.rang (.inr ⟨_, _, rfl⟩)).mono ?_
    rintro e w' ⟨N, rfl, _, _, hb⟩
    exact ⟨⟨_, rfl, .inr ⟨fun n => by simp, N, rfl⟩⟩, hb⟩
theorem stat_ok (v : ByteArray) (n : Int) (s : Int) (h : Lib.atoiAll v.data.toList = .ok n) : statF v s = (decide (v.size = 3) && decide (Lib.itoa n = v.data.toList) && decide (100 ≤ n) && decide (n ≤ 599), n) := by
  unfold statF; rw [h]
theorem stat_no (v : ByteArray) (s : Int) (h : ∀ n, Lib.atoiAll v.data.toList ≠ .ok n) : (statF v s).1 = false := by
  unfold statF
  split
  · rename_i n hn; exact absurd hn (h n)
  · rfl
  · rfl
theorem stat_same (v : ByteArray) (s s' : Int) : statF v s = statF v s' := rfl
def StPost (b : Bool) (n : Int) (g : Nat) (W : World) (e : Ending) (w' : World) : Prop := e = .returned (.bool b) ∧ Blk w' g 35 (ansCells n) ∧ W.grownBy w' (some g)
set_option maxHeartbeats 2000000 in
set_option maxRecDepth 100000 in
theorem take_stat (g : Nat) (w : World) {e1 e2 e3 : Addr} (he : EnvH w e1 e2 e3) (hg : 9 ≤ g) : Fnc Tryd.prog (boxS g 35 ansCells) txtL (isG g) (.func (.func 22) #[] #[.pointer (some ⟨g, 0, none⟩)]) takeT.take w := by
  refine ⟨22, #[], #[.pointer (some ⟨g, 0, none⟩)], rfl, enters_of Tryd.func22 (by kernel_rfl) rfl, fun W s xv x hW hS hx => ?_⟩
  obtain ⟨rfl, hsz⟩ := hx
  have hS : Blk W g 35 (ansCells s) := hS
  have HS := Lib.hid hS
  have hE : EnvH W e1 e2 e3 := he.kept (fun i hi => hW.block i (by have := he.room; omega) (show ¬ i = g by omega)) (Nat.le_trans he.room hW.size)
  have HE := Lib.hid hE
  have HAt := Lib.hid (atoi_any x W hsz hE)
  show Calls Tryd.prog 22 #[.string x, .pointer (some ⟨g, 0, none⟩)] W fun e w' => ∃ yv, e = .returned yv ∧ txtL.RY w' yv (statF x s).1 ∧ Blk w' g 35 (ansCells (statF x s).2) ∧ W.grownBy w' (some g)
  rw [stat_same x s 0]
  suffices hs : Calls Tryd.prog 22 #[.string x, .pointer (some ⟨g, 0, none⟩)] W (StPost (statF x 0).1 (statF x 0).2 g W) from hs.mono fun e w' ⟨h1, h2, h3⟩ => ⟨_, h1, rfl, h2, h3⟩
  have HG := Lib.hid (And.intro hg hsz)
  obtain ⟨fb, hfb⟩ : ∃ b, (statF x 0).1 = b := ⟨_, rfl⟩
  obtain ⟨fn, hfn⟩ : ∃ b, (statF x 0).2 = b := ⟨_, rfl⟩
  rw [hfn] at HAt
  rw [hfb, hfn]
  have HFB := Lib.hid hfb
  have HFN := Lib.hid hfn
  clear he hW hS hE hg hsz hfb hfn
  go_enter Tryd.func22, Tryd.ntmps22
  go_wp2_with fail
  refine HAt.out.mono ?_
  rintro e w1 ⟨⟨ev, rfl, hev⟩, hb1⟩
  have HB1 := Lib.hid hb1
  have hc0 := (HS.out.below hb1 HS.out.lt).cell 0
  have hc1 := (HS.out.below hb1 HS.out.lt).frozen 0
  have hc0 : w1.cell? ⟨g, 0, none⟩ = some (.int .i64 s) := hc0
  have HPut := Lib.hid (show Blk (w1.setCell ⟨g, 0, none⟩ (.int .i64 fn)) g 35 (ansCells fn) from (HS.out.below hb1 HS.out.lt).put 0 _)
  have HGr := Lib.hid (show W.grownBy (w1.setCell ⟨g, 0, none⟩ (.int .i64 fn)) (some g) from (grown_of_below hb1 (some g)).andThen (grown_setCell (World.grownBy.refl w1 (some g)) 0 _) (fun j e => .inr e))
  rcases hev with ⟨n, hn, rfl⟩ | ⟨hno, N, rfl⟩
  · have hst := stat_ok x n 0 hn
    obtain rfl : fn = n := by rw [← HFN.out, hst]
    have hbd := Lib.atoiAll_bounds hn
    have HI := Lib.hid (fun W2 (hE2 : EnvH W2 e1 e2 e3) => itoa_any fn W2 hbd.1 hbd.2 hE2)
    have HE2 := Lib.hid (HE.out.grown HGr.out (fun j e => by injection e with e; have := HG.out.1; omega))
    obtain ⟨t, ht⟩ : ∃ t : ByteArray, (⟨(Lib.itoa fn).toArray⟩ : ByteArray) = t := ⟨_, rfl⟩
    have hq : decide (Lib.itoa fn = x.data.toList) = (t.toList == x.toList) := by rw [beq_dec, Lib.toList_data, Lib.toList_data, ← ht]
    rw [ht] at HI
    have HFb := Lib.hid (show (decide (x.size = 3) && (t.toList == x.toList) && decide (100 ≤ fn) && decide (fn ≤ 599)) = fb by rw [← HFB.out, hst, hq])
    clear hn hst hb1 ht hq hbd
    obtain ⟨q, hq⟩ : ∃ q, (t.toList == x.toList) = q := ⟨_, rfl⟩
    by_cases h3 : x.size = 3
    · have hx3 : ((x.size : Int) == 3) = true := by rw [beq_iff_eq]; omega
      rcases q with _ | _
      · have HBv := Lib.hid (show fb = false by rw [← HFb.out, hq]; simp)
        go_wp2_with ((with_reducible refine (HI.out _ HE2.out).mono ?_); rintro e w3 ⟨rfl, g3⟩; have G3 := Lib.hid g3; clear g3)
        go_ret
        exact ⟨by rw [HBv.out]; rfl, HPut.out.below G3.out HPut.out.lt, HGr.out.andThen (grown_of_below G3.out none) (fun j e => by cases e)⟩
      · by_cases h1 : 100 ≤ fn
        · by_cases h5 : fn ≤ 599
          · have HBv := Lib.hid (show fb = true by rw [← HFb.out, hq]; simp [h3, h1, h5])
            have h5d : decide (fn ≤ 599) = true := decide_eq_true h5
            go_wp2_with ((with_reducible refine (HI.out _ HE2.out).mono ?_); rintro e w3 ⟨rfl, g3⟩; have G3 := Lib.hid g3; clear g3)
            go_ret
            exact ⟨by rw [HBv.out]; rfl, HPut.out.below G3.out HPut.out.lt, HGr.out.andThen (grown_of_below G3.out none) (fun j e => by cases e)⟩
          · have HBv := Lib.hid (show fb = false by rw [← HFb.out]; simp [h5])
            have h5d : decide (fn ≤ 599) = false := decide_eq_false h5
            go_wp2_with ((with_reducible refine (HI.out _ HE2.out).mono ?_); rintro e w3 ⟨rfl, g3⟩; have G3 := Lib.hid g3; clear g3)
            go_ret
            exact ⟨by rw [HBv.out]; rfl, HPut.out.below G3.out HPut.out.lt, HGr.out.andThen (grown_of_below G3.out none) (fun j e => by cases e)⟩
        · have HBv := Lib.hid (show fb = false by rw [← HFb.out]; simp [h1])
          go_wp2_with ((with_reducible refine (HI.out _ HE2.out).mono ?_); rintro e w3 ⟨rfl, g3⟩; have G3 := Lib.hid g3; clear g3)
          go_ret
          exact ⟨by rw [HBv.out]; rfl, HPut.out.below G3.out HPut.out.lt, HGr.out.andThen (grown_of_below G3.out none) (fun j e => by cases e)⟩
    · have hx3 : ((x.size : Int) == 3) = false := by rw [beq_eq_false_iff_ne]; omega
      have HBv := Lib.hid (show fb = false by rw [← HFb.out]; simp [h3])
      go_wp2
      go_ret
      exact ⟨by rw [HBv.out]; rfl, HPut.out, HGr.out⟩
  · have HBv := Lib.hid (show fb = false by rw [← HFB.out]; exact stat_no x 0 hno)
    clear hno hb1
    go_wp2
    go_ret
    exact ⟨by rw [HBv.out]; rfl, HPut.out, HGr.out⟩
def rT (g : Nat) : RuleF Int × Value := (takeT, .func (.func 22) #[] #[.pointer (some ⟨g, 0, none⟩)])
theorem res10 (tmps : Array Value) (w : World) (b : Nat) (a0 a1 ev : Value) (ht : tmps[2]? = some (.pointer (some ⟨b, 0, none⟩))) (h3 : tmps[3]? = some ev) (hb : Blk w b 35 #[a0, a1]) :
    (results Tryd.f10 tmps).run Tryd.prog w = .ok (.tuple #[.agg #[a0, a1], ev]) w := by
  have c0 : w.cell? ⟨b, 0, none⟩ = some a0 := hb.cell 0
  have c1 : w.cell? ⟨b, 1, none⟩ = some a1 := hb.cell 1
  simp [results, Tryd.results10, go_sem, ht, h3, c0, c1]
def AnsPost (e1 : Addr) (w : World) (r : Option (List HdrV × Int)) (e : Ending) (w' : World) : Prop :=
  Below w.heap.size w w' ∧ ((r = none ∧ e = .returned (.tuple #[.agg #[.int .i64 0, .slice none 0 0], errH e1])) ∨
    ∃ rest s, r = some (rest, s) ∧ ∃ A c, e = .returned (.tuple #[.agg #[.int .i64 s, .slice A rest.length c], .nilIface]) ∧ Hw w' w.heap.size (.slice A rest.length c) rest)
/-- While the rule of an answer is laid. -/
structure OaF (w : World) (rs : List (RuleF Int × Value)) (k : Nat) (W : World) : Prop where
  bel : Below w.heap.size w W
  req : Blk W (w.heap.size + 1) 35 (ansCells 0)
  res : Blk W w.heap.size 35 (ansCells 0)
  rm : RM W (w.heap.size + 1 + 1) k rs
theorem OaF.start (w : World) : OaF w [] 0 (((w.alloc (.cells (ansCells 0) 35)).alloc (.cells (ansCells 0) 35)).alloc (.map #[] 0)) := by
  have s1 : (w.alloc (.cells (ansCells 0) 35)).heap.size = w.heap.size + 1 := by simp
  have s2 : ((w.alloc (.cells (ansCells 0) 35)).alloc (.cells (ansCells 0) 35)).heap.size = w.heap.size + 1 + 1 := by simp
  refine ⟨(((Below.refl _ _).alloc (Nat.le_refl _) _).alloc (by rw [s1]; omega) _).alloc (by rw [s2]; omega) _, ?_, ?_, ?_⟩
  · have := (Blk.new (w.alloc (.cells (ansCells 0) 35)) 35 (ansCells 0)).alloc (.map #[] 0)
    rw [s1] at this; exact this
  · exact ((Blk.new w 35 (ansCells 0)).alloc _).alloc _
  · have := World.ownsMap_made ((w.alloc (.cells (ansCells 0) 35)).alloc (.cells (ansCells 0) 35)) Tryd.prog 9 R6
    rw [s2] at this
    exact ⟨_, this, RD_nil⟩
theorem OaF.laid {w W W' : World} {rs rs' : List (RuleF Int × Value)} {k k' : Nat} (h : OaF w rs k W) (hg : W.grownBy W' (some (w.heap.size + 1 + 1))) (hm : RM W' (w.heap.size + 1 + 1) k' rs') : OaF w rs' k' W' :=
  ⟨h.bel.grown hg h.bel.size (fun j e => by injection e with e; omega), h.req.grown hg (fun e => by injection e with e; omega), h.res.grown hg (fun e => by injection e with e; omega), hm⟩
set_option maxHeartbeats 4000000 in
set_option maxRecDepth 100000 in
theorem openAnswer_any (A : Option Addr) (n c : Nat) (l : List HdrV) (w : World) {e1 e2 e3 : Addr} (he : EnvH w e1 e2 e3) (hn : n ≤ 100000) (hnc : n ≤ c) (hr : Hr w A n l) (hz : Szs l) :
    Calls Tryd.prog 10 #[.slice A n c] w (AnsPost e1 w (openS rules1 l 0)) := by
  have HE := Lib.hid he
  have HR := Lib.hid hr
  have HZ := Lib.hid hz
  have HN := Lib.hid (And.intro hn hnc)
  clear he hr hz hn hnc
  have hmm := @run_mkMap Tryd.prog
  have HO1 := Lib.hid (OaF.start w)
  simp only [ansCells] at HO1
  go_enter Tryd.func10, Tryd.ntmps10
  go_wp2_with (refine wpList_lay_rule _ rfl (.tmp 9) (.const (.string ⟨#[58, 115, 116, 97, 116, 117, 115]⟩)) (.tmp 11) rfl (w.heap.size + 1 + 1) 0 [] rfl HO1.out.rm (by omega) (rT (w.heap.size + 1)) ⟨#[58, 115, 116, 97, 116, 117, 115]⟩ (by decide) rfl rfl rfl rfl ?_; intro w5 hm5 hg5; have HO6 := Lib.hid (HO1.out.laid hg5 hm5); clear hm5 hg5)
  have HSp := Lib.hid (split_any (w.heap.size + 1) 35 ansCells [rT (w.heap.size + 1)] 0 A n c l (w.heap.size + 1 + 1) 1 w5 (HE.out.below HO6.out.bel HE.out.room)
    ⟨HO6.out.rm.lt, HO6.out.req.lt, by omega, by have := HE.out.room; omega, fun hp ad e => by have := HR.out.alt hp ad e; omega⟩ HN.out.1 HN.out.2 (HR.out.below HO6.out.bel) HZ.out HO6.out.req HO6.out.rm (fun r hr => by
      simp only [List.mem_cons, List.not_mem_nil, or_false] at hr
      subst hr
      exact take_stat _ w5 (HE.out.below HO6.out.bel HE.out.room) (by have := HE.out.room; omega)) (by show [colT].Nodup; decide))
  refine HSp.out.mono ?_
  rintro e w6 ⟨g6, h6⟩
  rw [show ([rT (w.heap.size + 1)] : List (RuleF Int × Value)).map (·.1) = rules1 from rfl] at h6
  have hres := HO6.out.res.grown g6 (fun e => by injection e with e; omega)
  have HB6 := Lib.hid (below_box HO6.out.bel g6 (by omega))
  have HRes := Lib.hid hres
  clear g6 hres HSp
  have r0 := HRes.out.cell 0
  have r1 := HRes.out.cell 1
  have q0 := HRes.out.frozen 0
  have q1 := HRes.out.frozen 1
  simp only [ansCells] at r0 r1
  rcases h6 with ⟨h6, A6, n6, c6, rfl⟩ | ⟨rest, s, h6, A6, c6, rfl, hw6, hs6⟩
  · have H6 := Lib.hid h6
    clear h6
    have hce := (HE.out.below HB6.out HE.out.room).head
    have hn0 : w.heap.size ≠ 0 := by have := HE.out.room; omega
    have hn1 : ¬ (0 = w.heap.size) := fun e => hn0 e.symm
    go_wp2
    go_region
    all_goals
      go_wp2
      have hb0 := ((HRes.out.put 0 (.int .i64 0)).put 1 (.slice none 0 0)).drewN 1
      refine bodyPost_ret (res10 _ _ w.heap.size (.int .i64 0) (.slice none 0 0) (errH e1) rfl rfl hb0) rfl ⟨below_drewN ((HB6.out.setCell (Nat.le_refl _) _).setCell (Nat.le_refl _) _) 1, .inl ⟨H6.out, rfl⟩⟩
  · have H6 := Lib.hid h6
    have HW6 := Lib.hid hw6
    have HS6 := Lib.hid hs6
    clear h6 hw6 hs6
    have s0 := HS6.out.cell 0
    have s1 := HS6.out.cell 1
    have z1 := HS6.out.frozen 1
    simp only [ansCells] at s0 s1
    go_wp2
    have hb0 : Blk (((w6.setCell ⟨w.heap.size + 1, 1, none⟩ (.slice A6 rest.length c6)).setCell ⟨w.heap.size, 0, none⟩ (.int .i64 s)).setCell ⟨w.heap.size, 1, none⟩ (.slice A6 rest.length c6)) w.heap.size 35 #[.int .i64 s, .slice A6 rest.length c6] :=
      ((HRes.out.far (show w.heap.size ≠ w.heap.size + 1 by omega) _).put 0 _).put 1 _
    have hbel : Below w.heap.size w (((w6.setCell ⟨w.heap.size + 1, 1, none⟩ (.slice A6 rest.length c6)).setCell ⟨w.heap.size, 0, none⟩ (.int .i64 s)).setCell ⟨w.heap.size, 1, none⟩ (.slice A6 rest.length c6)) :=
      ((HB6.out.setCell (Nat.le_succ _) _).setCell (Nat.le_refl _) _).setCell (Nat.le_refl _) _
    refine bodyPost_ret (res10 _ _ w.heap.size _ _ _ rfl rfl hb0) rfl ⟨hbel, .inr ⟨rest, s, H6.out, A6, c6, rfl, ?_⟩⟩
    have h5 := HO6.out.bel.size
    have hlt : w.heap.size + 1 < w5.heap.size := HO6.out.req.lt
    exact (hw_put (by show w.heap.size < _; omega) (hw_put (by show w.heap.size < _; omega) (hw_put (by show w.heap.size + 1 < _; omega) HW6.out))).base h5
end Go.Proofs.YtkikcinpgbgbdaaDoor
