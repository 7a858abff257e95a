/-
  Contracts: the function of the rule of answers; head.OpenAnswer.
  Contracts: parleylaw6.first: the chapter's examples; parleylaw6.light.
  Contracts: parleyref.Headers (a copy in new memory), parleyref.SameHeader and SameHeaders of lists that are the same; a header that is stored into a list of one's own.
  What is built is opened as it was: plain laws of lists that are built; no program.
  Contracts: head.Build, head.BuildAnswer: a list that is built, or ErrHead; what is built is opened as it was.
-/
import Derived.Test.YtoafmhbgbofgoaaGreatDoorOp
import Derived.Lib.AtoiAllCases
import Derived.Lib.AppendIntMem
import Derived.Lib.AtoiErrMem
import Derived.LaidEql
import Derived.Laws.OwnMore
import Derived.Deep.RegionWith
import Derived.Deep.DeepCutAuto
import Derived.BigQuiet
import Derived.Lib.ItoaLen
section
namespace Go.Own.Hd
def ansCells (s : Int) : Array Value := #[.int .i64 s, .slice none 0 0]
def colT : List UInt8 := [58, 115, 116, 97, 116, 117, 115]
def statF (v : ByteArray) (_ : Int) : Bool × Int :=
  match Lib.atoiAll v.data.toList with
  | .ok n => (decide (v.size = 3) && decide (Lib.itoa n = v.data.toList) && decide (100 ≤ n) && decide (n ≤ 599), n)
  | .range => (false, Lib.atoiSat v.data.toList)
  | _ => (false, 0)
def takeT : RuleF Int := ⟨colT, true, statF⟩
def rules1 : List (RuleF Int) := [takeT]
end Go.Own.Hd
namespace Go.Proofs.YtoafmhbgbofgoaaGreatDoor
open Go.RowKit Go.Own Go.Own.Hd Go.Own.Fn Go.WideShapes
theorem itoa_any (n : Int) (w : World) (h1 : -9223372036854775808 ≤ n) (h2 : n ≤ 9223372036854775807) {e1 e2 e3 : Addr} (he : EnvH w e1 e2 e3) :
    Calls Tryz.prog 41 #[.int .i64 n] w fun e w' => e = .returned (.string ⟨(Lib.itoa n).toArray⟩) ∧ Below w.heap.size w w' := by
  refine (Tryz.strconv_Itoa n h1 h2 w he.pow).mono ?_
  rintro e w' ⟨rfl, k, os, rfl⟩
  exact ⟨rfl, Lib.below_grow w.heap.size w (Nat.le_refl _) k os⟩
/-- strconv.Atoi, any text. -/
theorem atoi_any (v : ByteArray) (w : World) (hv : v.size ≤ 1000000000) {e1 e2 e3 : Addr} (he : EnvH w e1 e2 e3) :
    Calls Tryz.prog 40 #[.string v] w fun e w' => (∃ ev, e = .returned (.tuple #[.int .i64 (statF v 0).2, ev]) ∧ ((∃ n, Lib.atoiAll v.data.toList = .ok n ∧ ev = .nilIface) ∨ ((∀ n, Lib.atoiAll v.data.toList ≠ .ok n) ∧ ∃ N, ev = .iface 124 (.pointer (some ⟨N, 0, none⟩))))) ∧ Below w.heap.size w w' := by
  unfold statF
  rcases h : Lib.atoiAll v.data.toList with n | _ | _
  · refine (Tryz.strconv_Atoi_ok v (by omega) n h w).mono ?_
    rintro e w' ⟨rfl, hw⟩
    refine ⟨⟨_, rfl, .inl ⟨n, rfl, rfl⟩⟩, ?_⟩
    rcases hw with rfl | ⟨t, rfl⟩
    · exact Below.refl _ _
    · exact Lib.bytesWorld_below _ _ _
  · refine (Any.strconv_Atoi_syntax Tryz.laysC172 v (by omega) h _ w he.synt (.inr ⟨_, _, rfl⟩)).mono ?_
    rintro e w' ⟨N, rfl, _, _, hb⟩
    exact ⟨⟨_, rfl, .inr ⟨fun n => by simp, N, rfl⟩⟩, hb⟩
  · refine (Tryz.strconv_Atoi_range v (by omega) h _ w he.rang (.inr ⟨_, _, rfl⟩)).mono ?_
    rintro e w' ⟨N, rfl, _, _, hb⟩
    exact ⟨⟨_, rfl, .inr ⟨fun n => by simp, N, rfl⟩⟩, hb⟩
theorem stat_ok (v : ByteArray) (n : Int) (s : Int) (h : Lib.atoiAll v.data.toList = .ok n) : statF v s = (decide (v.size = 3) && decide (Lib.itoa n = v.data.toList) && decide (100 ≤ n) && decide (n ≤ 599), n) := by
  unfold statF; rw [h]
theorem stat_no (v : ByteArray) (s : Int) (h : ∀ n, Lib.atoiAll v.data.toList ≠ .ok n) : (statF v s).1 = false := by
  unfold statF
  split
  · rename_i n hn; exact absurd hn (h n)
  · rfl
  · rfl
theorem stat_same (v : ByteArray) (s s' : Int) : statF v s = statF v s' := rfl
def StPost (b : Bool) (n : Int) (g : Nat) (W : World) (e : Ending) (w' : World) : Prop := e = .returned (.bool b) ∧ Blk w' g 43 (ansCells n) ∧ W.grownBy w' (some g)
set_option maxHeartbeats 2000000 in
set_option maxRecDepth 100000 in
theorem take_stat (g : Nat) (w : World) {e1 e2 e3 : Addr} (he : EnvH w e1 e2 e3) (hg : 14 ≤ g) : Fnc Tryz.prog (boxS g 43 ansCells) txtL (isG g) (.func (.func 39) #[] #[.pointer (some ⟨g, 0, none⟩)]) takeT.take w := by
  refine ⟨39, #[], #[.pointer (some ⟨g, 0, none⟩)], rfl, enters_of Tryz.func39 (by kernel_rfl) rfl, fun W s xv x hW hS hx => ?_⟩
  obtain ⟨rfl, hsz⟩ := hx
  have hS : Blk W g 43 (ansCells s) := hS
  have HS := Lib.hid hS
  have hE : EnvH W e1 e2 e3 := he.kept (fun i hi => hW.block i (by have := he.room; omega) (show ¬ i = g by omega)) (Nat.le_trans he.room hW.size)
  have HE := Lib.hid hE
  have HAt := Lib.hid (atoi_any x W hsz hE)
  show Calls Tryz.prog 39 #[.string x, .pointer (some ⟨g, 0, none⟩)] W fun e w' => ∃ yv, e = .returned yv ∧ txtL.RY w' yv (statF x s).1 ∧ Blk w' g 43 (ansCells (statF x s).2) ∧ W.grownBy w' (some g)
  rw [stat_same x s 0]
  suffices hs : Calls Tryz.prog 39 #[.string x, .pointer (some ⟨g, 0, none⟩)] W (StPost (statF x 0).1 (statF x 0).2 g W) from hs.mono fun e w' ⟨h1, h2, h3⟩ => ⟨_, h1, rfl, h2, h3⟩
  have HG := Lib.hid (And.intro hg hsz)
  obtain ⟨fb, hfb⟩ : ∃ b, (statF x 0).1 = b := ⟨_, rfl⟩
  obtain ⟨fn, hfn⟩ : ∃ b, (statF x 0).2 = b := ⟨_, rfl⟩
  rw [hfn] at HAt
  rw [hfb, hfn]
  have HFB := Lib.hid hfb
  have HFN := Lib.hid hfn
  clear he hW hS hE hg hsz hfb hfn
  go_enter Tryz.func39, Tryz.ntmps39
  go_wp2_with fail
  refine HAt.out.mono ?_
  rintro e w1 ⟨⟨ev, rfl, hev⟩, hb1⟩
  have HB1 := Lib.hid hb1
  have hc0 := (HS.out.below hb1 HS.out.lt).cell 0
  have hc1 := (HS.out.below hb1 HS.out.lt).frozen 0
  have hc0 : w1.cell? ⟨g, 0, none⟩ = some (.int .i64 s) := hc0
  have HPut := Lib.hid (show Blk (w1.setCell ⟨g, 0, none⟩ (.int .i64 fn)) g 43 (ansCells fn) from (HS.out.below hb1 HS.out.lt).put 0 _)
  have HGr := Lib.hid (show W.grownBy (w1.setCell ⟨g, 0, none⟩ (.int .i64 fn)) (some g) from (grown_of_below hb1 (some g)).andThen (grown_setCell (World.grownBy.refl w1 (some g)) 0 _) (fun j e => .inr e))
  rcases hev with ⟨n, hn, rfl⟩ | ⟨hno, N, rfl⟩
  · have hst := stat_ok x n 0 hn
    obtain rfl : fn = n := by rw [← HFN.out, hst]
    have hbd := Lib.atoiAll_bounds hn
    have HI := Lib.hid (fun W2 (hE2 : EnvH W2 e1 e2 e3) => itoa_any fn W2 hbd.1 hbd.2 hE2)
    have HE2 := Lib.hid (HE.out.grown HGr.out (fun j e => by injection e with e; have := HG.out.1; omega))
    obtain ⟨t, ht⟩ : ∃ t : ByteArray, (⟨(Lib.itoa fn).toArray⟩ : ByteArray) = t := ⟨_, rfl⟩
    have hq : decide (Lib.itoa fn = x.data.toList) = (t.toList == x.toList) := by rw [beq_dec, Lib.toList_data, Lib.toList_data, ← ht]
    rw [ht] at HI
    have HFb := Lib.hid (show (decide (x.size = 3) && (t.toList == x.toList) && decide (100 ≤ fn) && decide (fn ≤ 599)) = fb by rw [← HFB.out, hst, hq])
    clear hn hst hb1 ht hq hbd
    obtain ⟨q, hq⟩ : ∃ q, (t.toList == x.toList) = q := ⟨_, rfl⟩
    by_cases h3 : x.size = 3
    · have hx3 : ((x.size : Int) == 3) = true := by rw [beq_iff_eq]; omega
      rcases q with _ | _
      · have HBv := Lib.hid (show fb = false by rw [← HFb.out, hq]; simp)
        go_wp2_with ((with_reducible refine (HI.out _ HE2.out).mono ?_); rintro e w3 ⟨rfl, g3⟩; have G3 := Lib.hid g3; clear g3)
        go_ret
        exact ⟨by rw [HBv.out]; rfl, HPut.out.below G3.out HPut.out.lt, HGr.out.andThen (grown_of_below G3.out none) (fun j e => by cases e)⟩
      · by_cases h1 : 100 ≤ fn
        · by_cases h5 : fn ≤ 599
          · have HBv := Lib.hid (show fb = true by rw [← HFb.out, hq]; simp [h3, h1, h5])
            have h5d : decide (fn ≤ 599) = true := decide_eq_true h5
            go_wp2_with ((with_reducible refine (HI.out _ HE2.out).mono ?_); rintro e w3 ⟨rfl, g3⟩; have G3 := Lib.hid g3; clear g3)
            go_ret
            exact ⟨by rw [HBv.out]; rfl, HPut.out.below G3.out HPut.out.lt, HGr.out.andThen (grown_of_below G3.out none) (fun j e => by cases e)⟩
          · have HBv := Lib.hid (show fb = false by rw [← HFb.out]; simp [h5])
            have h5d : decide (fn ≤ 599) = false := decide_eq_false h5
            go_wp2_with ((with_reducible refine (HI.out _ HE2.out).mono ?_); rintro e w3 ⟨rfl, g3⟩; have G3 := Lib.hid g3; clear g3)
            go_ret
            exact ⟨by rw [HBv.out]; rfl, HPut.out.below G3.out HPut.out.lt, HGr.out.andThen (grown_of_below G3.out none) (fun j e => by cases e)⟩
        · have HBv := Lib.hid (show fb = false by rw [← HFb.out]; simp [h1])
          go_wp2_with ((with_reducible refine (HI.out _ HE2.out).mono ?_); rintro e w3 ⟨rfl, g3⟩; have G3 := Lib.hid g3; clear g3)
          go_ret
          exact ⟨by rw [HBv.out]; rfl, HPut.out.below G3.out HPut.out.lt, HGr.out.andThen (grown_of_below G3.out none) (fun j e => by cases e)⟩
    · have hx3 : ((x.size : Int) == 3) = false := by rw [beq_eq_false_iff_ne]; omega
      have HBv := Lib.hid (show fb = false by rw [← HFb.out]; simp [h3])
      go_wp2
      go_ret
      exact ⟨by rw [HBv.out]; rfl, HPut.out, HGr.out⟩
  · have HBv := Lib.hid (show fb = false by rw [← HFB.out]; exact stat_no x 0 hno)
    clear hno hb1
    go_wp2
    go_ret
    exact ⟨by rw [HBv.out]; rfl, HPut.out, HGr.out⟩
def rT (g : Nat) : RuleF Int × Value := (takeT, .func (.func 39) #[] #[.pointer (some ⟨g, 0, none⟩)])
theorem res10 (tmps : Array Value) (w : World) (b : Nat) (a0 a1 ev : Value) (ht : tmps[2]? = some (.pointer (some ⟨b, 0, none⟩))) (h3 : tmps[3]? = some ev) (hb : Blk w b 43 #[a0, a1]) :
    (results Tryz.f11 tmps).run Tryz.prog w = .ok (.tuple #[.agg #[a0, a1], ev]) w := by
  have c0 : w.cell? ⟨b, 0, none⟩ = some a0 := hb.cell 0
  have c1 : w.cell? ⟨b, 1, none⟩ = some a1 := hb.cell 1
  simp [results, Tryz.results11, go_sem, ht, h3, c0, c1]
def AnsPost (e1 : Addr) (w : World) (r : Option (List HdrV × Int)) (e : Ending) (w' : World) : Prop :=
  Below w.heap.size w w' ∧ ((r = none ∧ e = .returned (.tuple #[.agg #[.int .i64 0, .slice none 0 0], errH e1])) ∨
    ∃ rest s, r = some (rest, s) ∧ ∃ A c, e = .returned (.tuple #[.agg #[.int .i64 s, .slice A rest.length c], .nilIface]) ∧ Hw w' w.heap.size (.slice A rest.length c) rest)
/-- While the rule of an answer is laid. -/
structure OaF (w : World) (rs : List (RuleF Int × Value)) (k : Nat) (W : World) : Prop where
  bel : Below w.heap.size w W
  req : Blk W (w.heap.size + 1) 43 (ansCells 0)
  res : Blk W w.heap.size 43 (ansCells 0)
  rm : RM W (w.heap.size + 1 + 1) k rs
theorem OaF.start (w : World) : OaF w [] 0 (((w.alloc (.cells (ansCells 0) 43)).alloc (.cells (ansCells 0) 43)).alloc (.map #[] 0)) := by
  have s1 : (w.alloc (.cells (ansCells 0) 43)).heap.size = w.heap.size + 1 := by simp
  have s2 : ((w.alloc (.cells (ansCells 0) 43)).alloc (.cells (ansCells 0) 43)).heap.size = w.heap.size + 1 + 1 := by simp
  refine ⟨(((Below.refl _ _).alloc (Nat.le_refl _) _).alloc (by rw [s1]; omega) _).alloc (by rw [s2]; omega) _, ?_, ?_, ?_⟩
  · have := (Blk.new (w.alloc (.cells (ansCells 0) 43)) 43 (ansCells 0)).alloc (.map #[] 0)
    rw [s1] at this; exact this
  · exact ((Blk.new w 43 (ansCells 0)).alloc _).alloc _
  · have := World.ownsMap_made ((w.alloc (.cells (ansCells 0) 43)).alloc (.cells (ansCells 0) 43)) Tryz.prog 9 R6
    rw [s2] at this
    exact ⟨_, this, RD_nil⟩
theorem OaF.laid {w W W' : World} {rs rs' : List (RuleF Int × Value)} {k k' : Nat} (h : OaF w rs k W) (hg : W.grownBy W' (some (w.heap.size + 1 + 1))) (hm : RM W' (w.heap.size + 1 + 1) k' rs') : OaF w rs' k' W' :=
  ⟨h.bel.grown hg h.bel.size (fun j e => by injection e with e; omega), h.req.grown hg (fun e => by injection e with e; omega), h.res.grown hg (fun e => by injection e with e; omega), hm⟩
set_option maxHeartbeats 4000000 in
set_option maxRecDepth 100000 in
theorem openAnswer_any (A : Option Addr) (n c : Nat) (l : List HdrV) (w : World) {e1 e2 e3 : Addr} (he : EnvH w e1 e2 e3) (hn : n ≤ 100000) (hnc : n ≤ c) (hr : Hr w A n l) (hz : Szs l) :
    Calls Tryz.prog 11 #[.slice A n c] w (AnsPost e1 w (openS rules1 l 0)) := by
  have HE := Lib.hid he
  have HR := Lib.hid hr
  have HZ := Lib.hid hz
  have HN := Lib.hid (And.intro hn hnc)
  clear he hr hz hn hnc
  have hmm := @run_mkMap Tryz.prog
  have HO1 := Lib.hid (OaF.start w)
  simp only [ansCells] at HO1
  go_enter Tryz.func11, Tryz.ntmps11
  go_wp2_with (refine wpList_lay_rule _ rfl (.tmp 9) (.const (.string ⟨#[58, 115, 116, 97, 116, 117, 115]⟩)) (.tmp 11) rfl (w.heap.size + 1 + 1) 0 [] rfl HO1.out.rm (by omega) (rT (w.heap.size + 1)) ⟨#[58, 115, 116, 97, 116, 117, 115]⟩ (by decide) rfl rfl rfl rfl ?_; intro w5 hm5 hg5; have HO6 := Lib.hid (HO1.out.laid hg5 hm5); clear hm5 hg5)
  have HSp := Lib.hid (split_any (w.heap.size + 1) 43 ansCells [rT (w.heap.size + 1)] 0 A n c l (w.heap.size + 1 + 1) 1 w5 (HE.out.below HO6.out.bel HE.out.room)
    ⟨HO6.out.rm.lt, HO6.out.req.lt, by omega, by have := HE.out.room; omega, fun hp ad e => by have := HR.out.alt hp ad e; omega⟩ HN.out.1 HN.out.2 (HR.out.below HO6.out.bel) HZ.out HO6.out.req HO6.out.rm (fun r hr => by
      simp only [List.mem_cons, List.not_mem_nil, or_false] at hr
      subst hr
      exact take_stat _ w5 (HE.out.below HO6.out.bel HE.out.room) (by have := HE.out.room; omega)) (by show [colT].Nodup; decide))
  refine HSp.out.mono ?_
  rintro e w6 ⟨g6, h6⟩
  rw [show ([rT (w.heap.size + 1)] : List (RuleF Int × Value)).map (·.1) = rules1 from rfl] at h6
  have hres := HO6.out.res.grown g6 (fun e => by injection e with e; omega)
  have HB6 := Lib.hid (below_box HO6.out.bel g6 (by omega))
  have HRes := Lib.hid hres
  clear g6 hres HSp
  have r0 := HRes.out.cell 0
  have r1 := HRes.out.cell 1
  have q0 := HRes.out.frozen 0
  have q1 := HRes.out.frozen 1
  simp only [ansCells] at r0 r1
  rcases h6 with ⟨h6, A6, n6, c6, rfl⟩ | ⟨rest, s, h6, A6, c6, rfl, hw6, hs6⟩
  · have H6 := Lib.hid h6
    clear h6
    have hce := (HE.out.below HB6.out HE.out.room).head
    have hn0 : w.heap.size ≠ 4 := by have := HE.out.room; omega
    have hn1 : ¬ (4 = w.heap.size) := fun e => hn0 e.symm
    go_wp2
    go_region
    all_goals
      go_wp2
      have hb0 := ((HRes.out.put 0 (.int .i64 0)).put 1 (.slice none 0 0)).drewN 1
      refine bodyPost_ret (res10 _ _ w.heap.size (.int .i64 0) (.slice none 0 0) (errH e1) rfl rfl hb0) rfl ⟨below_drewN ((HB6.out.setCell (Nat.le_refl _) _).setCell (Nat.le_refl _) _) 1, .inl ⟨H6.out, rfl⟩⟩
  · have H6 := Lib.hid h6
    have HW6 := Lib.hid hw6
    have HS6 := Lib.hid hs6
    clear h6 hw6 hs6
    have s0 := HS6.out.cell 0
    have s1 := HS6.out.cell 1
    have z1 := HS6.out.frozen 1
    simp only [ansCells] at s0 s1
    go_wp2
    have hb0 : Blk (((w6.setCell ⟨w.heap.size + 1, 1, none⟩ (.slice A6 rest.length c6)).setCell ⟨w.heap.size, 0, none⟩ (.int .i64 s)).setCell ⟨w.heap.size, 1, none⟩ (.slice A6 rest.length c6)) w.heap.size 43 #[.int .i64 s, .slice A6 rest.length c6] :=
      ((HRes.out.far (show w.heap.size ≠ w.heap.size + 1 by omega) _).put 0 _).put 1 _
    have hbel : Below w.heap.size w (((w6.setCell ⟨w.heap.size + 1, 1, none⟩ (.slice A6 rest.length c6)).setCell ⟨w.heap.size, 0, none⟩ (.int .i64 s)).setCell ⟨w.heap.size, 1, none⟩ (.slice A6 rest.length c6)) :=
      ((HB6.out.setCell (Nat.le_succ _) _).setCell (Nat.le_refl _) _).setCell (Nat.le_refl _) _
    refine bodyPost_ret (res10 _ _ w.heap.size _ _ _ rfl rfl hb0) rfl ⟨hbel, .inr ⟨rest, s, H6.out, A6, c6, rfl, ?_⟩⟩
    have h5 := HO6.out.bel.size
    have hlt : w.heap.size + 1 < w5.heap.size := HO6.out.req.lt
    exact (hw_put (by show w.heap.size < _; omega) (hw_put (by show w.heap.size < _; omega) (hw_put (by show w.heap.size + 1 < _; omega) HW6.out))).base h5
end Go.Proofs.YtoafmhbgbofgoaaGreatDoor
end

section
namespace Go.Own.Hd
end Go.Own.Hd
namespace Go.Proofs.YtoafmhbgbofgoaaGreatDoor
open Go.RowKit Go.Own Go.Own.Hd Go.Own.Fn Go.WideShapes
theorem hr_lit {W : World} {g : Nat} {l : List HdrV} (h : Blk W g 67 (hcells l).toArray) : Hr W (some ⟨g, 0, none⟩) l.length l := by
  refine ⟨rfl, fun j u hu => ⟨_, rfl, h.lt, ?_⟩⟩
  have := h.cell j
  rw [show (⟨g, 0, none⟩ : Addr).add j = ⟨g, j, none⟩ by cases j <;> simp [Addr.add]]
  rw [this]
  simpa using hu
theorem Hr.take {w : World} {A : Option Addr} {n k : Nat} {l : List HdrV} (h : Hr w A n l) (hk : k ≤ n) : Hr w A k (l.take k) := by
  refine ⟨by rw [List.length_take, h.1]; omega, fun j u hu => h.2 j u ?_⟩
  have e : hcells l = hcells (l.take k) ++ hcells (l.drop k) := by rw [← hcells_append, List.take_append_drop]
  rw [e, List.getElem?_append_left (List.getElem?_eq_some_iff.1 hu).1]
  exact hu
theorem szs_lit (l : List HdrV) (h : ∀ x ∈ l, x.name.size ≤ 1000000000 ∧ x.value.size ≤ 1000000000) : Szs l := h
theorem err_same (a : Addr) (W : World) : (binOp .eql 30 (.iface 164 (.pointer (some a))) (.iface 164 (.pointer (some a)))).run Tryz.prog W = .ok (.bool true) W := by
  obtain ⟨j, hj, hjs⟩ := Option.map_eq_some_iff.1 (show (Tryz.prog.info? 166).map (·.size) = some 1 by kernel_rfl)
  obtain ⟨i, hi, hcmp⟩ := Option.map_eq_some_iff.1 (show (Tryz.prog.info? 164).map (·.comparable) = some true by kernel_rfl)
  simpa using run_eql_iface_ptr_same (P := Tryz.prog) W a Tryz.underlying30 Tryz.underlying164 hi hcmp hj

/-- nil, or ErrHead. -/
def EV (e1 : Addr) (ok : Bool) : Value := bif ok then .nilIface else errH e1
theorem run_ev_eq (e1 : Addr) (ok : Bool) (W : World) : (binOp .eql 30 (EV e1 ok) .nilIface).run Tryz.prog W = .ok (.bool ok) W := by
  cases ok
  · kernel_rfl
  · kernel_rfl
theorem run_ev_ne (e1 : Addr) (ok : Bool) (W : World) : (binOp .neq 30 (EV e1 ok) .nilIface).run Tryz.prog W = .ok (.bool (!ok)) W := by
  cases ok
  · kernel_rfl
  · kernel_rfl
theorem run_eg (e1 : Addr) (ok : Bool) (b : BinOp) (x : Operand) (W : World) : (eqGuard b 30 x (.const .nilIface) (EV e1 ok) .nilIface).run Tryz.prog W = .ok () W := by
  cases ok <;> cases b <;> first | rfl | simp [eqGuard, EV, errH, go_sem] | kernel_rfl
theorem open_ok (A : Option Addr) (n c : Nat) (l : List HdrV) (w : World) {e1 e2 e3 : Addr} (he : EnvH w e1 e2 e3) (hn : n ≤ 100000) (hnc : n ≤ c) (hr : Hr w A n l) (hz : Szs l) :
    Calls Tryz.prog 8 #[.slice A n c] w fun e w' => ∃ a1 a2 a3 a4 A5 n5 c5, e = .returned (.tuple #[.agg #[.string a1, .string a2, .string a3, .string a4, .slice A5 n5 c5], EV e1 (okB rules4 req0 l)]) ∧ Hid (Below w.heap.size w w') := by
  refine (open_any A n c l w he hn hnc hr hz).mono ?_
  rintro e w' ⟨hb, h⟩
  unfold okB
  rcases h with ⟨h, rfl⟩ | ⟨rest, s, h, A5, c5, rfl, _⟩
  · rw [h]; exact ⟨_, _, _, _, _, _, _, rfl, Lib.hid hb⟩
  · rw [h]; exact ⟨_, _, _, _, _, _, _, rfl, Lib.hid hb⟩
theorem ans_ok (A : Option Addr) (n c : Nat) (l : List HdrV) (w : World) {e1 e2 e3 : Addr} (he : EnvH w e1 e2 e3) (hn : n ≤ 100000) (hnc : n ≤ c) (hr : Hr w A n l) (hz : Szs l) :
    Calls Tryz.prog 11 #[.slice A n c] w fun e w' => ∃ k A5 n5 c5, e = .returned (.tuple #[.agg #[.int .i64 k, .slice A5 n5 c5], EV e1 (okB rules1 0 l)]) ∧ Hid (Below w.heap.size w w') := by
  refine (openAnswer_any A n c l w he hn hnc hr hz).mono ?_
  rintro e w' ⟨hb, h⟩
  unfold okB
  rcases h with ⟨h, rfl⟩ | ⟨rest, s, h, A5, c5, rfl, _⟩
  · rw [h]; exact ⟨_, _, _, _, rfl, Lib.hid hb⟩
  · rw [h]; exact ⟨_, _, _, _, rfl, Lib.hid hb⟩
theorem trails_ok (A : Option Addr) (n c : Nat) (l : List HdrV) (w : World) {e1 e2 e3 : Addr} (he : EnvH w e1 e2 e3) (hn : n ≤ 1000000000) (hr : Hr w A n l) (hz : Szs l) :
    Calls Tryz.prog 14 #[.slice A n c] w fun e w' => e = .returned (EV e1 (l.all plainB)) ∧ Hid (Below w.heap.size w w') :=
  (trailers_any A n c l w he hn hr hz).mono fun _ _ h => ⟨h.1, Lib.hid h.2⟩
end Go.Proofs.YtoafmhbgbofgoaaGreatDoor
end

section
namespace Go.Proofs.YtoafmhbgbofgoaaGreatDoor
open Go.RowKit Go.Own Go.Own.Hd Go.Own.Fn Go.WideShapes Go.Shelf
attribute [local go_sem] Oper.semAt_some
theorem hw_lit (w : World) (l : List HdrV) (hl : l.length ≤ 1000) : Hw (w.alloc (.cells (hcells l).toArray 67)) w.heap.size (.slice (some ⟨w.heap.size, 0, none⟩) l.length l.length) l :=
  World.ownsRow_lit w (hcells l).toArray l.length (Nat.le_refl _) (by simp only [maxLen]; omega) (by rw [List.size_toArray, hcells_len])
set_option maxRecDepth 100000 in
theorem run_mk_h (n : Nat) (hn : n ≤ 1000) (w : World) : ∃ w', (Instr.makeSlice 22 (.int .i64 0) (.int .i64 (n : Int))).run Tryz.prog w = .ok (.slice (some ⟨w.heap.size, 0, none⟩) 0 n) w' ∧ Hw w' w.heap.size (.slice (some ⟨w.heap.size, 0, none⟩) 0 n) [] ∧ Below w.heap.size w w' := by
  obtain ⟨i, hi, hz, h1, h2⟩ := infoH
  obtain ⟨w', hrun, r1, r2⟩ := run_make_own (P := Tryz.prog) w w.heap.size 22 67 i _ 3 Tryz.underlying22 hi hz h1 .i64 .i64 n (by rw [h2]; omega) (by simp only [maxLen]; omega) (Nat.le_refl _)
  exact ⟨w', hrun, r1, (Below.refl _ _).grown r2 (Nat.le_refl _) (fun k e => by cases e)⟩
section
variable {ops : Array Oper} {rest : List Oper} {o : Oper} {a : Act} {Q : Exit → Act → World → Prop}
set_option maxRecDepth 100000 in
theorem wpList_mk_h (w : World) (hgd : o.guard = none) (x : Operand) (n : Nat) (hn : n ≤ 1000) (hop : o.op = Op.makeSlice 22 (.const (.int .i64 0)) x) (hx : a.eval x = .int .i64 (n : Int))
    (h : ∀ w', Hw w' w.heap.size (.slice (some ⟨w.heap.size, 0, none⟩) 0 n) [] → Below w.heap.size w w' → wpList Tryz.prog ops Q rest (a.put o.dst (.slice (some ⟨w.heap.size, 0, none⟩) 0 n)) w') : wpList Tryz.prog ops Q (o :: rest) a w := by
  refine wpList_plain hgd fun K hK => ?_
  obtain ⟨w', hrun, r1, r2⟩ := run_mk_h n hn w
  unfold Oper.wp
  have e1 : a.eval (.const (.int .i64 0)) = .int .i64 0 := rfl
  have hrun : (Instr.makeSlice 22 (.int .i64 0) (.int .i64 (n : Int))).run Tryz.prog w = _ := hrun
  simp [execOp, hop, e1, hx, hrun, Result.andThen]
  exact hK _ _ (h w' r1 r2)
end
structure CpJ (w : World) (l : List HdrV) (k : Nat) (v : Value) (W : World) : Prop where
  bel : Below w.heap.size w W
  own : Hw W w.heap.size v (l.take k)
set_option maxRecDepth 100000 in
theorem sameHeader_yes (a : HdrV) (w : World) : Calls Tryz.prog 38 #[.agg #[.string a.name, .string a.value, .bool a.never], .agg #[.string a.name, .string a.value, .bool a.never]] w fun e w' => e = .returned (.bool true) ∧ Below w.heap.size w w' := by
  obtain ⟨n, v, b⟩ := a
  simp only
  go_enter Tryz.func38, Tryz.ntmps38
  go_wp2
  go_ret
  exact ⟨rfl, ((Below.refl _ _).alloc (Nat.le_refl _) _).alloc (by simp) _⟩
set_option maxHeartbeats 1000000 in
set_option maxRecDepth 100000 in
theorem sameHeaders_yes (A A2 : Option Addr) (n c c2 : Nat) (l : List HdrV) (w : World) (hn : n ≤ 1000000000) (h1 : Hr w A n l) (h2 : Hr w A2 n l) :
    Calls Tryz.prog 9 #[.slice A n c, .slice A2 n c2] w fun e w' => e = .returned (.bool true) ∧ Below w.heap.size w w' := by
  have H1 := Lib.hid h1
  have H2 := Lib.hid h2
  clear h1 h2
  go_enter Tryz.func9, Tryz.ntmps9
  go_wp2
  go_loopw [5] (fun i wr => ∃ k : Nat, k ≤ n ∧ i = .int .i64 (k : Int) ∧ Hid (Below w.heap.size w wr)) (fun i _ => n - (intOf i).toNat)
  case atStart => exact ⟨0, by omega, rfl, Lib.hid (Below.refl _ _)⟩
  case round =>
    obtain ⟨k, hk, rfl, hb⟩ := hrel
    by_cases hlt : k < n
    · obtain ⟨ad, rfl, a0, a1, a2⟩ := (H1.out.below hb.out).at_ hlt
      obtain ⟨ad2, rfl, b0, b1, b2⟩ := (H2.out.below hb.out).at_ hlt
      obtain ⟨x, hx⟩ : ∃ x, l.getD k ⟨⟨#[]⟩, ⟨#[]⟩, false⟩ = x := ⟨_, rfl⟩
      rw [hx] at a0 a1 a2 b0 b1 b2
      obtain ⟨xn, xv, xb⟩ := x
      simp only at a0 a1 a2 b0 b1 b2
      clear hx
      have i0 : (0 : Int) ≤ (k : Int) := by omega
      have i1 : (k : Int) < (n : Int) := by omega
      have HS := Lib.hid fun W => sameHeader_yes ⟨xn, xv, xb⟩ W
      go_wp2_with fail
      go_region_with ((refine (HS.out _).mono ?_; rintro e w2 ⟨rfl, g1⟩; have HB := Lib.hid (hb.out.trans (Below.mono (B := wr.heap.size) (by exact ⟨g1.os, g1.tape, g1.output, g1.size, g1.block⟩) hb.out.size)); clear g1))
      all_goals
        go_wp2_with fail
        go_roundw
        case rel => exact ⟨k + 1, hlt, by go_num, HB⟩
        case measure => simp [intOf]; omega
    · obtain rfl : k = n := by omega
      go_wp2
      go_ret
      exact ⟨rfl, hb.out⟩
end Go.Proofs.YtoafmhbgbofgoaaGreatDoor
end

section
namespace Go.Own.Hd
open Go
section
variable {σ : Type} {rs : List (RuleF σ)} {s s' : σ}
theorem pre_cons {h : HdrV} {t : List HdrV} {met : List (List UInt8)} (e : preP rs (h :: t) met s = some s') : ∃ s1, step rs h met s = some s1 ∧ preP rs t (met ++ [tx h.name]) s1 = some s' := by
  unfold preP at e
  rcases hs : step rs h met s with _ | s1
  · rw [hs] at e; cases e
  · rw [hs] at e; exact ⟨s1, rfl, e⟩
theorem pre_nil {met : List (List UInt8)} (e : preP rs [] met s = some s') : s' = s := by
  unfold preP at e
  split at e
  · injection e with e; exact e.symm
  · cases e
theorem step_val {h : HdrV} {met : List (List UInt8)} {r : RuleF σ} (hf : rs.find? (fun r => r.name == tx h.name) = some r) (e : step rs h met s = some s') : s' = (r.take h.value s).2 ∧ (r.take h.value s).1 = true := by
  unfold step at e
  rw [hf] at e
  simp only at e
  split at e
  · cases e
  · split at e
    · split at e
      · rename_i h1
        injection e with e
        exact ⟨e.symm, h1⟩
      · cases e
    · cases e
theorem dropWhile_length_le {α : Type} (f : α → Bool) : ∀ l : List α, (l.dropWhile f).length ≤ l.length
  | [] => Nat.le_refl _
  | x :: l => by
    rw [List.dropWhile_cons]
    split
    · have := dropWhile_length_le f l
      rw [List.length_cons]; omega
    · exact Nat.le_refl _
theorem dropWhile_full {α : Type} (f : α → Bool) (l : List α) (h : (l.dropWhile f).length = l.length) : l.dropWhile f = l ∧ l.takeWhile f = [] := by
  rcases l with _ | ⟨x, l⟩
  · exact ⟨rfl, rfl⟩
  · rw [List.dropWhile_cons] at h ⊢
    rw [List.takeWhile_cons]
    by_cases hx : f x = true
    · rw [if_pos hx] at h
      have := dropWhile_length_le f l
      rw [List.length_cons] at h
      omega
    · rw [if_neg hx, if_neg hx]
      exact ⟨rfl, rfl⟩
theorem while_app {α : Type} (f : α → Bool) : ∀ (p q : List α), p.all f = true → (p ++ q).takeWhile f = p ++ q.takeWhile f ∧ (p ++ q).dropWhile f = q.dropWhile f
  | [], q, _ => ⟨rfl, rfl⟩
  | x :: p, q, h => by
    simp at h
    obtain ⟨h1, h2⟩ := while_app f p q (by simpa using h.2)
    simp [h.1, h1, h2]
/-- A list that is opened as long as it was built is what it was built of. -/
theorem open_built {p R rest : List HdrV} (hp : p.all colonB = true) (e : openS rs (p ++ R) s = some (rest, s')) (hl : rest.length = R.length) : rest = R ∧ preP rs p [] s = some s' := by
  obtain ⟨e1, e2⟩ := while_app colonB p R hp
  unfold openS at e
  rw [e1, e2] at e
  rcases hs : preP rs (p ++ R.takeWhile colonB) [] s with _ | s1
  · rw [hs] at e; cases e
  · rw [hs] at e
    simp only at e
    split at e
    · injection e with e
      injection e with e3 e4
      subst e3 e4
      obtain ⟨h1, h2⟩ := dropWhile_full colonB R hl
      rw [h2, List.append_nil] at hs
      exact ⟨h1, hs⟩
    · cases e
end
def colH (n : List UInt8) (v : ByteArray) : HdrV := ⟨⟨n.toArray⟩, v, false⟩
/-- The headers with colons of a request that is built. -/
def preL (M S A P : ByteArray) : List HdrV := [colH colM M, colH colS S] ++ (if A.toList.isEmpty then [] else [colH colA A]) ++ [colH colP P]
theorem colH_colon (n : List UInt8) (v : ByteArray) (h : n.getD 0 0 = 58) (h0 : n ≠ []) : colonB (colH n v) = true := by
  unfold colonB
  exact decide_eq_true ⟨h0, h⟩
theorem preL_colon (M S A P : ByteArray) : (preL M S A P).all colonB = true := by
  have h1 := colH_colon colM M rfl (by decide)
  have h2 := colH_colon colS S rfl (by decide)
  have h3 := colH_colon colA A rfl (by decide)
  have h4 := colH_colon colP P rfl (by decide)
  unfold preL
  cases A.toList.isEmpty <;> simp [h1, h2, h3, h4]
theorem empty_text (A : ByteArray) (h : A.toList.isEmpty = true) : A = ⟨#[]⟩ := by
  rw [Lib.toList_data] at h
  obtain ⟨⟨l⟩⟩ := A
  cases l with
  | nil => rfl
  | cons x l => cases h
theorem preL_req (M S A P : ByteArray) {s' : Req4} (e : preP rules4 (preL M S A P) [] req0 = some s') : s' = ⟨M, S, A, P⟩ := by
  have fM : ∀ v, rules4.find? (fun r => r.name == tx (colH colM v).name) = some takeM := fun v => rfl
  have fS : ∀ v, rules4.find? (fun r => r.name == tx (colH colS v).name) = some takeS := fun v => rfl
  have fP : ∀ v, rules4.find? (fun r => r.name == tx (colH colP v).name) = some takeP := fun v => rfl
  have fA : ∀ v, rules4.find? (fun r => r.name == tx (colH colA v).name) = some takeA := fun v => rfl
  unfold preL at e
  rcases hA : A.toList.isEmpty with _ | _
  · rw [hA] at e
    simp only [Bool.false_eq_true, if_false, List.cons_append, List.nil_append] at e
    obtain ⟨s1, h1, e⟩ := pre_cons e
    obtain ⟨s2, h2, e⟩ := pre_cons e
    obtain ⟨s3, h3, e⟩ := pre_cons e
    obtain ⟨s4, h4, e⟩ := pre_cons e
    have e := pre_nil e
    have h1 := (step_val (fM _) h1).1
    have h2 := (step_val (fS _) h2).1
    have h3 := (step_val (fA _) h3).1
    have h4 := (step_val (fP _) h4).1
    subst h1 h2 h3 h4 e
    rfl
  · rw [hA] at e
    obtain rfl := empty_text A hA
    simp only [if_true, List.cons_append, List.nil_append, List.append_nil] at e
    obtain ⟨s1, h1, e⟩ := pre_cons e
    obtain ⟨s2, h2, e⟩ := pre_cons e
    obtain ⟨s4, h4, e⟩ := pre_cons e
    have e := pre_nil e
    have h1 := (step_val (fM _) h1).1
    have h2 := (step_val (fS _) h2).1
    have h4 := (step_val (fP _) h4).1
    subst h1 h2 h4 e
    rfl
/-- What is opened of a request that is built. -/
theorem req_built {M S A P : ByteArray} {R rest : List HdrV} {s' : Req4} (e : openS rules4 (preL M S A P ++ R) req0 = some (rest, s')) (hl : rest.length = R.length) : rest = R ∧ s' = ⟨M, S, A, P⟩ := by
  obtain ⟨h1, h2⟩ := open_built (preL_colon M S A P) e hl
  exact ⟨h1, preL_req M S A P h2⟩
theorem dec_val (u : Nat) : (Lib.decDigits u).foldl (fun a c => a * 10 + (c.toNat - 48)) 0 = u := by
  induction u using Nat.strongRecOn with
  | _ u ih =>
    rw [Lib.decDigits]
    split
    · rename_i h
      have : (UInt8.ofNat (48 + u)).toNat = 48 + u := by
        rw [UInt8.toNat_ofNat']; omega
      rw [List.foldl_cons, List.foldl_nil, this]
      omega
    · rename_i h
      have : (UInt8.ofNat (48 + u % 10)).toNat = 48 + u % 10 := by
        rw [UInt8.toNat_ofNat']; omega
      rw [List.foldl_append, ih (u / 10) (by omega), List.foldl_cons, List.foldl_nil, this]
      omega
theorem dec_first (u : Nat) : (Lib.decDigits u).getD 0 0 ≠ 45 := by
  induction u using Nat.strongRecOn with
  | _ u ih =>
    rw [Lib.decDigits]
    split
    · rename_i h
      intro e
      have e : UInt8.ofNat (48 + u) = 45 := e
      have := congrArg UInt8.toNat e
      rw [UInt8.toNat_ofNat'] at this
      have h45 : (45 : UInt8).toNat = 45 := rfl
      omega
    · rename_i h
      have := ih (u / 10) (by omega)
      rcases hd : Lib.decDigits (u / 10) with _ | ⟨c, t⟩
      · have := Lib.decDigits_length (u / 10)
        rw [hd] at this
        have h2 := dec_val (u / 10)
        rw [hd] at h2
        have h2 : 0 = u / 10 := h2
        omega
      · rw [hd] at this
        exact this
theorem itoa_inj' {m n : Int} (hm : 0 ≤ m) (e : Lib.itoa m = Lib.itoa n) : m = n := by
  unfold Lib.itoa at e
  rw [if_neg (by omega)] at e
  split at e
  · exfalso
    have := dec_first m.toNat
    rw [e] at this
    exact this rfl
  · have h1 := dec_val m.toNat
    rw [e, dec_val] at h1
    omega
def staT (n : Int) : ByteArray := ⟨(Lib.itoa n).toArray⟩
theorem ans_built {n : Int} {R rest : List HdrV} {s' : Int} (e : openS rules1 ([colH colT (staT n)] ++ R) 0 = some (rest, s')) (hl : rest.length = R.length) : rest = R ∧ s' = n := by
  obtain ⟨h1, h2⟩ := open_built (by simp [colH_colon colT (staT n) rfl (by decide)]) e hl
  refine ⟨h1, ?_⟩
  obtain ⟨s1, h3, e⟩ := pre_cons h2
  have e := pre_nil e
  subst e
  obtain ⟨h4, h5⟩ := step_val (show rules1.find? (fun r => r.name == tx (colH colT (staT n)).name) = some takeT from rfl) h3
  subst h4
  have h5 : (statF (staT n) 0).1 = true := h5
  show (statF (staT n) 0).2 = n
  unfold statF at h5 ⊢
  split at h5
  · rename_i m hm
    simp only [Bool.and_eq_true, decide_eq_true_eq] at h5
    have e := h5.1.1.2
    have e : Lib.itoa m = Lib.itoa n := e
    exact itoa_inj' (by omega) e
  · cases h5
  · cases h5
end Go.Own.Hd
end

section
namespace Go.Proofs.YtoafmhbgbofgoaaGreatDoor
open Go.RowKit Go.Own Go.Own.Hd Go.Own.Fn Go.WideShapes
attribute [local go_sem] Oper.semAt_some
/-- While a list is built. -/
structure BuJ (w0 : World) (v : Value) (l : List HdrV) (W : World) : Prop where
  bel : Below w0.heap.size w0 W
  own : Hw W w0.heap.size v l
theorem BuJ.app {w0 W w4 : World} {v v4 : Value} {l m : List HdrV} {o : Obj} (h : BuJ w0 v l W) (hown : Hw w4 w0.heap.size v4 (l ++ m)) (hg : (W.alloc o).grownBy w4 v.ownBlock) : BuJ w0 v4 (l ++ m) w4 :=
  ⟨(h.bel.alloc h.bel.size o).grown hg (by have := h.bel.size; simp; omega) (fun j e => (h.own.lt j e).1), hown⟩
theorem BuJ.app0 {w0 W w4 : World} {v v4 : Value} {l m : List HdrV} (h : BuJ w0 v l W) (hown : Hw w4 w0.heap.size v4 (l ++ m)) (hg : W.grownBy w4 v.ownBlock) : BuJ w0 v4 (l ++ m) w4 :=
  ⟨h.bel.grown hg h.bel.size (fun j e => (h.own.lt j e).1), hown⟩
theorem BuJ.below {w0 W W' : World} {v : Value} {l : List HdrV} (h : BuJ w0 v l W) (hb : Below W.heap.size W W') : BuJ w0 v l W' :=
  ⟨h.bel.trans (hb.mono h.bel.size), h.own.below hb⟩
theorem szs_one (n : List UInt8) (v : ByteArray) (hn : n.length ≤ 100) (hv : v.size ≤ 1000000000) : Szs [colH n v] := fun x hx => by
  rw [List.mem_singleton] at hx
  subst hx
  refine ⟨?_, hv⟩
  show (⟨n.toArray⟩ : ByteArray).size ≤ _
  rw [Lib.size_eq]
  simp
  omega
theorem szs_app {a b : List HdrV} (ha : Szs a) (hb : Szs b) : Szs (a ++ b) := fun x hx => by
  rcases List.mem_append.1 hx with hx | hx
  · exact ha x hx
  · exact hb x hx
def BuPost (e1 : Addr) (w : World) (M S U P : ByteArray) (R : List HdrV) (e : Ending) (w' : World) : Prop :=
  Below w.heap.size w w' ∧ (e = .returned (.tuple #[.slice none 0 0, errH e1]) ∨ ∃ A' n' c', e = .returned (.tuple #[.slice A' n' c', .nilIface]) ∧ n' ≤ c' ∧ Hw w' w.heap.size (.slice A' n' c') (preL M S U P ++ R) ∧ openS rules4 (preL M S U P ++ R) req0 = some (R, ⟨M, S, U, P⟩))
set_option maxHeartbeats 4000000 in
set_option maxRecDepth 100000 in
theorem build_any (M S U P : ByteArray) (AR : Option Addr) (n c : Nat) (R : List HdrV) (w : World) {e1 e2 e3 : Addr} (he : EnvH w e1 e2 e3) (hn : n ≤ 100) (hr : Hr w AR n R) (hz : Szs R)
    (hs : M.size ≤ 1000000000 ∧ S.size ≤ 1000000000 ∧ U.size ≤ 1000000000 ∧ P.size ≤ 1000000000) :
    Calls Tryz.prog 28 #[.agg #[.string M, .string S, .string U, .string P, .slice AR n c]] w (BuPost e1 w M S U P R) := by
  have HE := Lib.hid he
  have HR := Lib.hid hr
  have HRL := Lib.hid hr.1
  have HZ := Lib.hid (show Szs (preL M S U P) from by
    have z1 := szs_one colM M (by decide) hs.1
    have z2 := szs_one colS S (by decide) hs.2.1
    have z3 := szs_one colA U (by decide) hs.2.2.1
    have z4 := szs_one colP P (by decide) hs.2.2.2
    unfold preL
    refine szs_app (szs_app (szs_app z1 z2) ?_) z4
    cases U.toList.isEmpty
    · exact z3
    · exact fun x hx => nomatch hx)
  have HZR := Lib.hid hz
  have HN := Lib.hid hn
  clear he hr hz hs
  go_enter Tryz.func28, Tryz.ntmps28
  go_upto_region 1 with fail
  have HB0 := Lib.hid (show Below w.heap.size w (w.alloc (.cells #[.string M, .string S, .string U, .string P, .slice AR n c] 37)) from (Below.refl _ _).alloc (Nat.le_refl _) _)
  have HK0 := Lib.hid (Blk.new w 37 #[.string M, .string S, .string U, .string P, .slice AR n c])
  have HSz := Lib.hid (show (w.alloc (.cells #[.string M, .string S, .string U, .string P, .slice AR n c] 37)).heap.size = w.heap.size + 1 by simp)
  generalize w.alloc (.cells #[.string M, .string S, .string U, .string P, .slice AR n c] 37) = w0 at HB0 HK0 HSz ⊢
  have HKf := Lib.hid (fun W (hW : Below w0.heap.size w0 W) => (show W.cell? ⟨w.heap.size, 0, none⟩ = some (.string M) ∧ W.cell? ⟨w.heap.size, 1, none⟩ = some (.string S) ∧ W.cell? ⟨w.heap.size, 2, none⟩ = some (.string U) ∧ W.cell? ⟨w.heap.size, 3, none⟩ = some (.string P) ∧ W.cell? ⟨w.heap.size, 4, none⟩ = some (.slice AR n c) from
    have h := HK0.out.below hW HK0.out.lt
    ⟨h.cell 0, h.cell 1, h.cell 2, h.cell 3, h.cell 4⟩))
  obtain ⟨k0, k1, k2, k3, k4⟩ := HKf.out w0 (Below.refl _ _)
  go_upto_region 2 with fail
  have HJ1 := Lib.hid (show BuJ w0 (.slice (some ⟨w0.heap.size, 0, none⟩) 2 2) [colH colM M, colH colS S] (w0.alloc (.cells #[.string ⟨#[58, 109, 101, 116, 104, 111, 100]⟩, .string M, .bool false, .string ⟨#[58, 115, 99, 104, 101, 109, 101]⟩, .string S, .bool false] 67)) from ⟨(Below.refl _ _).alloc (Nat.le_refl _) _, hw_lit w0 [colH colM M, colH colS S] (by simp)⟩)
  generalize w0.alloc (.cells #[.string ⟨#[58, 109, 101, 116, 104, 111, 100]⟩, .string M, .bool false, .string ⟨#[58, 115, 99, 104, 101, 109, 101]⟩, .string S, .bool false] 67) = w1 at HJ1 ⊢
  clear k0 k1 k2 k3 k4
  obtain ⟨_, _, k2, k3, k4⟩ := HKf.out w1 HJ1.out.bel
  obtain ⟨q, hq⟩ : ∃ q, U.toList.isEmpty = q := ⟨_, rfl⟩
  have HQ := Lib.hid hq
  rcases q with _ | _
  · have HO3 := Lib.hid (show Hw (w1.alloc (.cells #[.string ⟨#[58, 97, 117, 116, 104, 111, 114, 105, 116, 121]⟩, .string U, .bool false] 67)) w0.heap.size (.slice (some ⟨w0.heap.size, 0, none⟩) 2 2) [colH colM M, colH colS S] from HJ1.out.own.below ((Below.refl _ _).alloc (Nat.le_refl _) _))
    have HLt3 := Lib.hid (show Hr (w1.alloc (.cells #[.string ⟨#[58, 97, 117, 116, 104, 111, 114, 105, 116, 121]⟩, .string U, .bool false] 67)) (some ⟨w1.heap.size, 0, none⟩) 1 [colH colA U] from Hw.hr (hw_lit w1 [colH colA U] (by simp)))
    have HLe3 := Lib.hid (show w0.heap.size ≤ (w1.alloc (.cells #[.string ⟨#[58, 97, 117, 116, 104, 111, 114, 105, 116, 121]⟩, .string U, .bool false] 67)).heap.size from by have := HJ1.out.bel.size; simp; omega)
    go_wp2_with (first
      | (at_builtin
         refine wpList_app_hg _ rfl (.tmp 17) (.tmp 21) rfl w0.heap.size (.slice (some ⟨w0.heap.size, 0, none⟩) 2 2) [colH colM M, colH colS S] rfl HO3.out (some ⟨w1.heap.size, 0, none⟩) 1 1 [colH colA U] rfl HLt3.out (by simp) HLe3.out ?_
         intro v3 w3 hown hg hv
         have HJ3 := Lib.hid (HJ1.out.app hown hg)
         clear hown hg hv
         obtain ⟨_, _, _, k33, k43⟩ := HKf.out w3 HJ3.out.bel
         have HO4 := Lib.hid (show Hw (w3.alloc (.cells #[.string ⟨#[58, 112, 97, 116, 104]⟩, .string P, .bool false] 67)) w0.heap.size v3 ([colH colM M, colH colS S] ++ [colH colA U]) from HJ3.out.own.below ((Below.refl _ _).alloc (Nat.le_refl _) _))
         have HLt4 := Lib.hid (show Hr (w3.alloc (.cells #[.string ⟨#[58, 112, 97, 116, 104]⟩, .string P, .bool false] 67)) (some ⟨w3.heap.size, 0, none⟩) 1 [colH colP P] from Hw.hr (hw_lit w3 [colH colP P] (by simp)))
         have HLe4 := Lib.hid (show w0.heap.size ≤ (w3.alloc (.cells #[.string ⟨#[58, 112, 97, 116, 104]⟩, .string P, .bool false] 67)).heap.size from by have := HJ3.out.bel.size; simp; omega))
      | (at_builtin
         refine wpList_app_hg _ rfl (.tmp 23) (.tmp 27) rfl w0.heap.size v3 ([colH colM M, colH colS S] ++ [colH colA U]) rfl HO4.out (some ⟨w3.heap.size, 0, none⟩) 1 1 [colH colP P] rfl HLt4.out (by simp) HLe4.out ?_
         intro v4 w4 hown hg hv
         have HJ4 := Lib.hid (HJ3.out.app hown hg)
         clear hown hg hv
         obtain ⟨_, _, _, k34, k44⟩ := HKf.out w4 HJ4.out.bel
         skip)
      | (at_builtin
         refine wpList_app_hg _ rfl (.tmp 29) (.tmp 31) rfl w0.heap.size v4 ([colH colM M, colH colS S] ++ [colH colA U] ++ [colH colP P]) rfl HJ4.out.own AR n c R rfl ((HR.out.below HB0.out).below HJ4.out.bel) (by have := HN.out; have := HRL.out; simp; omega) HJ4.out.bel.size ?_
         intro v5 w5 hown hg hv
         have HJ5 := Lib.hid (HJ4.out.app0 hown hg)
         clear hown hg hv
         have HJ6 := Lib.hid (show BuJ w0 v5 (preL M S U P ++ R) w5 from by
           have h := HJ5.out
           unfold preL
           rw [HQ.out]
           simpa using h)
         clear HJ5
         obtain ⟨A6, c6, e6, hc6, _⟩ := HJ6.out.own.form
         obtain ⟨n6, hn6⟩ : ∃ n6, (preL M S U P ++ R).length = n6 := ⟨_, rfl⟩
         have hn6b : n6 ≤ 1000 := by
           rw [← hn6, List.length_append, HRL.out]
           unfold preL
           rw [HQ.out]
           have := HN.out
           simp
           omega
         rw [hn6] at e6 hc6
         subst e6
         have HN6 := Lib.hid (And.intro hn6b hc6)
         clear hn6b hc6 hn6))
    refine (open_any A6 n6 c6 (preL M S U P ++ R) w5 (HE.out.below (HB0.out.trans (HJ6.out.bel.mono HB0.out.size)) HE.out.room) (by have := HN6.out; omega) HN6.out.2 HJ6.out.own.hr (szs_app HZ.out HZR.out)).mono ?_
    rintro e w7 ⟨g7, h7⟩
    have HJ7 := Lib.hid (HJ6.out.below g7)
    clear g7
    have HB7 := Lib.hid (HB0.out.trans (HJ7.out.bel.mono HB0.out.size))
    rcases h7 with ⟨h7, rfl⟩ | ⟨rest, s7, h7, A7, c7, rfl, hw7⟩
    · have q4 := (HE.out.below (HB7.out.alloc HB7.out.size (.cells #[.string ⟨#[]⟩, .string ⟨#[]⟩, .string ⟨#[]⟩, .string ⟨#[]⟩, .slice none 0 0] 37)) HE.out.room).head
      unfold errH
      go_wp2_with fail
      go_quiet (fail)
      go_wp2
      go_ret2
      exact ⟨below_drewN (HB7.out.alloc HB7.out.size _) _, .inl rfl⟩
    · have HH7 := Lib.hid h7
      obtain ⟨k7, hk7⟩ : ∃ k, rest.length = k := ⟨_, rfl⟩
      rw [hk7] at hw7 ⊢
      obtain ⟨_, _, _, _, k4⟩ := HKf.out (w7.alloc (.cells #[.string s7.m, .string s7.s, .string s7.a, .string s7.p, .slice A7 k7 c7] 37)) (HJ7.out.bel.alloc HJ7.out.bel.size _)
      by_cases hkn : k7 = n
      · subst hkn
        have hkk : ((k7 : Int) == (k7 : Int)) = true := by simp
        go_wp2
        go_ret2
        have hres := req_built HH7.out (by rw [hk7, HRL.out])
        refine ⟨HB7.out.alloc HB7.out.size _, .inr ⟨_, _, _, rfl, HN6.out.2, (HJ7.out.own.base HB0.out.size).below ((Below.refl _ _).alloc (Nat.le_refl _) _), ?_⟩⟩
        rw [HH7.out, hres.1, hres.2]
      · have hkk : ((k7 : Int) == (n : Int)) = false := by rw [beq_eq_false_iff_ne]; omega
        have q4 := (HE.out.below (HB7.out.alloc HB7.out.size (.cells #[.string s7.m, .string s7.s, .string s7.a, .string s7.p, .slice A7 k7 c7] 37)) HE.out.room).head
        clear hw7 HH7 h7
        go_wp2
        go_quiet (fail)
        go_wp2
        go_ret2
        exact ⟨below_drewN (HB7.out.alloc HB7.out.size _) _, .inl rfl⟩
  · have HO4 := Lib.hid (show Hw (w1.alloc (.cells #[.string ⟨#[58, 112, 97, 116, 104]⟩, .string P, .bool false] 67)) w0.heap.size (.slice (some ⟨w0.heap.size, 0, none⟩) 2 2) [colH colM M, colH colS S] from HJ1.out.own.below ((Below.refl _ _).alloc (Nat.le_refl _) _))
    have HLt4 := Lib.hid (show Hr (w1.alloc (.cells #[.string ⟨#[58, 112, 97, 116, 104]⟩, .string P, .bool false] 67)) (some ⟨w1.heap.size, 0, none⟩) 1 [colH colP P] from Hw.hr (hw_lit w1 [colH colP P] (by simp)))
    have HLe4 := Lib.hid (show w0.heap.size ≤ (w1.alloc (.cells #[.string ⟨#[58, 112, 97, 116, 104]⟩, .string P, .bool false] 67)).heap.size from by have := HJ1.out.bel.size; simp; omega)
    go_wp2_with (first
      | (at_builtin
         refine wpList_app_hg _ rfl (.tmp 23) (.tmp 27) rfl w0.heap.size (.slice (some ⟨w0.heap.size, 0, none⟩) 2 2) [colH colM M, colH colS S] rfl HO4.out (some ⟨w1.heap.size, 0, none⟩) 1 1 [colH colP P] rfl HLt4.out (by simp) HLe4.out ?_
         intro v4 w4 hown hg hv
         have HJ4 := Lib.hid (HJ1.out.app hown hg)
         clear hown hg hv
         obtain ⟨_, _, _, k34, k44⟩ := HKf.out w4 HJ4.out.bel
         skip)
      | (at_builtin
         refine wpList_app_hg _ rfl (.tmp 29) (.tmp 31) rfl w0.heap.size v4 ([colH colM M, colH colS S] ++ [colH colP P]) rfl HJ4.out.own AR n c R rfl ((HR.out.below HB0.out).below HJ4.out.bel) (by have := HN.out; have := HRL.out; simp; omega) HJ4.out.bel.size ?_
         intro v5 w5 hown hg hv
         have HJ5 := Lib.hid (HJ4.out.app0 hown hg)
         clear hown hg hv
         have HJ6 := Lib.hid (show BuJ w0 v5 (preL M S U P ++ R) w5 from by
           have h := HJ5.out
           unfold preL
           rw [HQ.out]
           simpa using h)
         clear HJ5
         obtain ⟨A6, c6, e6, hc6, _⟩ := HJ6.out.own.form
         obtain ⟨n6, hn6⟩ : ∃ n6, (preL M S U P ++ R).length = n6 := ⟨_, rfl⟩
         have hn6b : n6 ≤ 1000 := by
           rw [← hn6, List.length_append, HRL.out]
           unfold preL
           rw [HQ.out]
           have := HN.out
           simp
           omega
         rw [hn6] at e6 hc6
         subst e6
         have HN6 := Lib.hid (And.intro hn6b hc6)
         clear hn6b hc6 hn6))
    refine (open_any A6 n6 c6 (preL M S U P ++ R) w5 (HE.out.below (HB0.out.trans (HJ6.out.bel.mono HB0.out.size)) HE.out.room) (by have := HN6.out; omega) HN6.out.2 HJ6.out.own.hr (szs_app HZ.out HZR.out)).mono ?_
    rintro e w7 ⟨g7, h7⟩
    have HJ7 := Lib.hid (HJ6.out.below g7)
    clear g7
    have HB7 := Lib.hid (HB0.out.trans (HJ7.out.bel.mono HB0.out.size))
    rcases h7 with ⟨h7, rfl⟩ | ⟨rest, s7, h7, A7, c7, rfl, hw7⟩
    · have q4 := (HE.out.below (HB7.out.alloc HB7.out.size (.cells #[.string ⟨#[]⟩, .string ⟨#[]⟩, .string ⟨#[]⟩, .string ⟨#[]⟩, .slice none 0 0] 37)) HE.out.room).head
      unfold errH
      go_wp2_with fail
      go_quiet (fail)
      go_wp2
      go_ret2
      exact ⟨below_drewN (HB7.out.alloc HB7.out.size _) _, .inl rfl⟩
    · have HH7 := Lib.hid h7
      obtain ⟨k7, hk7⟩ : ∃ k, rest.length = k := ⟨_, rfl⟩
      rw [hk7] at hw7 ⊢
      obtain ⟨_, _, _, _, k4⟩ := HKf.out (w7.alloc (.cells #[.string s7.m, .string s7.s, .string s7.a, .string s7.p, .slice A7 k7 c7] 37)) (HJ7.out.bel.alloc HJ7.out.bel.size _)
      by_cases hkn : k7 = n
      · subst hkn
        have hkk : ((k7 : Int) == (k7 : Int)) = true := by simp
        go_wp2
        go_ret2
        have hres := req_built HH7.out (by rw [hk7, HRL.out])
        refine ⟨HB7.out.alloc HB7.out.size _, .inr ⟨_, _, _, rfl, HN6.out.2, (HJ7.out.own.base HB0.out.size).below ((Below.refl _ _).alloc (Nat.le_refl _) _), ?_⟩⟩
        rw [HH7.out, hres.1, hres.2]
      · have hkk : ((k7 : Int) == (n : Int)) = false := by rw [beq_eq_false_iff_ne]; omega
        have q4 := (HE.out.below (HB7.out.alloc HB7.out.size (.cells #[.string s7.m, .string s7.s, .string s7.a, .string s7.p, .slice A7 k7 c7] 37)) HE.out.room).head
        clear hw7 HH7 h7
        go_wp2
        go_quiet (fail)
        go_wp2
        go_ret2
        exact ⟨below_drewN (HB7.out.alloc HB7.out.size _) _, .inl rfl⟩
end Go.Proofs.YtoafmhbgbofgoaaGreatDoor
end
