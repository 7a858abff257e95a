/-
  Contracts: the function of the rule of answers; head.OpenAnswer.
  Contract: (*Conn).Answer of a list of headers that stand in the table, at a server.
  The states of a server whose stream was answered (ConnStreams). No program text is walked here.
-/
import Derived.Test.YtdkfbkjmhgbppaaGreatDoorJn
import Derived.Lib.AtoiAllCases
import Derived.Lib.AppendIntMem
import Derived.Lib.AtoiErrMem
import Derived.Test.YtdkfbkjmhgbppaaGreatDoorJz
import Derived.Test.YtdkfbkjmhgbppaaGreatDoorKc
import Derived.Test.YtdkfbkjmhgbppaaGreatDoorJy
import Derived.Test.YtdkfbkjmhgbppaaGreatDoorJw
set_option linter.unusedSimpArgs false
set_option linter.unusedVariables false
section
namespace Go.Own.Hd
def ansCells (s : Int) : Array Value := #[.int .i64 s, .slice none 0 0]
def colT : List UInt8 := [58, 115, 116, 97, 116, 117, 115]
def statF (v : ByteArray) (_ : Int) : Bool × Int :=
  match Lib.atoiAll v.data.toList with
  | .ok n => (decide (v.size = 3) && decide (Lib.itoa n = v.data.toList) && decide (100 ≤ n) && decide (n ≤ 599), n)
  | .range => (false, Lib.atoiSat v.data.toList)
  | _ => (false, 0)
def takeT : RuleF Int := ⟨colT, true, statF⟩
def rules1 : List (RuleF Int) := [takeT]
end Go.Own.Hd
namespace Go.Proofs.YtdkfbkjmhgbppaaGreatDoor.H6
open Go.RowKit Go.Own Go.Own.Hd Go.Own.Fn Go.WideShapes
theorem itoa_any (n : Int) (w : World) (h1 : -9223372036854775808 ≤ n) (h2 : n ≤ 9223372036854775807) {e1 e2 e3 : Addr} (he : EnvH w e1 e2 e3) :
    Calls Tryz.prog 79 #[.int .i64 n] w fun e w' => e = .returned (.string ⟨(Lib.itoa n).toArray⟩) ∧ Below w.heap.size w w' := by
  refine (Tryz.strconv_Itoa n h1 h2 w he.pow).mono ?_
  rintro e w' ⟨rfl, k, os, rfl⟩
  exact ⟨rfl, Lib.below_grow w.heap.size w (Nat.le_refl _) k os⟩
/-- strconv.Atoi, any text. -/
theorem atoi_any (v : ByteArray) (w : World) (hv : v.size ≤ 1000000000) {e1 e2 e3 : Addr} (he : EnvH w e1 e2 e3) :
    Calls Tryz.prog 78 #[.string v] w fun e w' => (∃ ev, e = .returned (.tuple #[.int .i64 (statF v 0).2, ev]) ∧ ((∃ n, Lib.atoiAll v.data.toList = .ok n ∧ ev = .nilIface) ∨ ((∀ n, Lib.atoiAll v.data.toList ≠ .ok n) ∧ ∃ N, ev = .iface 207 (.pointer (some ⟨N, 0, none⟩))))) ∧ Below w.heap.size w w' := by
  unfold statF
  rcases h : Lib.atoiAll v.data.toList with n | _ | _
  · refine (Tryz.strconv_Atoi_ok v (by omega) n h w).mono ?_
    rintro e w' ⟨rfl, hw⟩
    refine ⟨⟨_, rfl, .inl ⟨n, rfl, rfl⟩⟩, ?_⟩
    rcases hw with rfl | ⟨t, rfl⟩
    · exact Below.refl _ _
    · exact Lib.bytesWorld_below _ _ _
  · refine (Any.strconv_Atoi_syntax Tryz.laysC172 v (by omega) h _ w he.synt (.inr ⟨_, _, rfl⟩)).mono ?_
    rintro e w' ⟨N, rfl, _, _, hb⟩
    exact ⟨⟨_, rfl, .inr ⟨fun n => by simp, N, rfl⟩⟩, hb⟩
  · refine (Tryz.strconv_Atoi_range v (by omega) h _ w he.rang (.inr ⟨_, _, rfl⟩)).mono ?_
    rintro e w' ⟨N, rfl, _, _, hb⟩
    exact ⟨⟨_, rfl, .inr ⟨fun n => by simp, N, rfl⟩⟩, hb⟩
theorem stat_ok (v : ByteArray) (n : Int) (s : Int) (h : Lib.atoiAll v.data.toList = .ok n) : statF v s = (decide (v.size = 3) && decide (Lib.itoa n = v.data.toList) && decide (100 ≤ n) && decide (n ≤ 599), n) := by
  unfold statF; rw [h]
theorem stat_no (v : ByteArray) (s : Int) (h : ∀ n, Lib.atoiAll v.data.toList ≠ .ok n) : (statF v s).1 = false := by
  unfold statF
  split
  · rename_i n hn; exact absurd hn (h n)
  · rfl
  · rfl
theorem stat_same (v : ByteArray) (s s' : Int) : statF v s = statF v s' := rfl
def StPost (b : Bool) (n : Int) (g : Nat) (W : World) (e : Ending) (w' : World) : Prop := e = .returned (.bool b) ∧ Blk w' g 97 (ansCells n) ∧ W.grownBy w' (some g)
set_option maxHeartbeats 2000000 in
set_option maxRecDepth 100000 in
theorem take_stat (g : Nat) (w : World) {e1 e2 e3 : Addr} (he : EnvH w e1 e2 e3) (hg : 20 ≤ g) : Fnc Tryz.prog (boxS g 97 ansCells) txtL (isG g) (.func (.func 77) #[] #[.pointer (some ⟨g, 0, none⟩)]) takeT.take w := by
  refine ⟨77, #[], #[.pointer (some ⟨g, 0, none⟩)], rfl, enters_of Tryz.func77 (by kernel_rfl) rfl, fun W s xv x hW hS hx => ?_⟩
  obtain ⟨rfl, hsz⟩ := hx
  have hS : Blk W g 97 (ansCells s) := hS
  have HS := Lib.hid hS
  have hE : EnvH W e1 e2 e3 := he.kept (fun i hi => hW.block i (by have := he.room; omega) (show ¬ i = g by omega)) (Nat.le_trans he.room hW.size)
  have HE := Lib.hid hE
  have HAt := Lib.hid (atoi_any x W hsz hE)
  show Calls Tryz.prog 77 #[.string x, .pointer (some ⟨g, 0, none⟩)] W fun e w' => ∃ yv, e = .returned yv ∧ txtL.RY w' yv (statF x s).1 ∧ Blk w' g 97 (ansCells (statF x s).2) ∧ W.grownBy w' (some g)
  rw [stat_same x s 0]
  suffices hs : Calls Tryz.prog 77 #[.string x, .pointer (some ⟨g, 0, none⟩)] W (StPost (statF x 0).1 (statF x 0).2 g W) from hs.mono fun e w' ⟨h1, h2, h3⟩ => ⟨_, h1, rfl, h2, h3⟩
  have HG := Lib.hid (And.intro hg hsz)
  obtain ⟨fb, hfb⟩ : ∃ b, (statF x 0).1 = b := ⟨_, rfl⟩
  obtain ⟨fn, hfn⟩ : ∃ b, (statF x 0).2 = b := ⟨_, rfl⟩
  rw [hfn] at HAt
  rw [hfb, hfn]
  have HFB := Lib.hid hfb
  have HFN := Lib.hid hfn
  clear he hW hS hE hg hsz hfb hfn
  go_enter Tryz.func77, Tryz.ntmps77
  go_wp2_with fail
  refine HAt.out.mono ?_
  rintro e w1 ⟨⟨ev, rfl, hev⟩, hb1⟩
  have HB1 := Lib.hid hb1
  have hc0 := (HS.out.below hb1 HS.out.lt).cell 0
  have hc1 := (HS.out.below hb1 HS.out.lt).frozen 0
  have hc0 : w1.cell? ⟨g, 0, none⟩ = some (.int .i64 s) := hc0
  have HPut := Lib.hid (show Blk (w1.setCell ⟨g, 0, none⟩ (.int .i64 fn)) g 97 (ansCells fn) from (HS.out.below hb1 HS.out.lt).put 0 _)
  have HGr := Lib.hid (show W.grownBy (w1.setCell ⟨g, 0, none⟩ (.int .i64 fn)) (some g) from (grown_of_below hb1 (some g)).andThen (grown_setCell (World.grownBy.refl w1 (some g)) 0 _) (fun j e => .inr e))
  rcases hev with ⟨n, hn, rfl⟩ | ⟨hno, N, rfl⟩
  · have hst := stat_ok x n 0 hn
    obtain rfl : fn = n := by rw [← HFN.out, hst]
    have hbd := Lib.atoiAll_bounds hn
    have HI := Lib.hid (fun W2 (hE2 : EnvH W2 e1 e2 e3) => itoa_any fn W2 hbd.1 hbd.2 hE2)
    have HE2 := Lib.hid (HE.out.grown HGr.out (fun j e => by injection e with e; have := HG.out.1; omega))
    obtain ⟨t, ht⟩ : ∃ t : ByteArray, (⟨(Lib.itoa fn).toArray⟩ : ByteArray) = t := ⟨_, rfl⟩
    have hq : decide (Lib.itoa fn = x.data.toList) = (t.toList == x.toList) := by rw [beq_dec, Lib.toList_data, Lib.toList_data, ← ht]
    rw [ht] at HI
    have HFb := Lib.hid (show (decide (x.size = 3) && (t.toList == x.toList) && decide (100 ≤ fn) && decide (fn ≤ 599)) = fb by rw [← HFB.out, hst, hq])
    clear hn hst hb1 ht hq hbd
    obtain ⟨q, hq⟩ : ∃ q, (t.toList == x.toList) = q := ⟨_, rfl⟩
    by_cases h3 : x.size = 3
    · have hx3 : ((x.size : Int) == 3) = true := by rw [beq_iff_eq]; omega
      rcases q with _ | _
      · have HBv := Lib.hid (show fb = false by rw [← HFb.out, hq]; simp)
        go_wp2_with ((with_reducible refine (HI.out _ HE2.out).mono ?_); rintro e w3 ⟨rfl, g3⟩; have G3 := Lib.hid g3; clear g3)
        go_ret
        exact ⟨by rw [HBv.out]; rfl, HPut.out.below G3.out HPut.out.lt, HGr.out.andThen (grown_of_below G3.out none) (fun j e => by cases e)⟩
      · by_cases h1 : 100 ≤ fn
        · by_cases h5 : fn ≤ 599
          · have HBv := Lib.hid (show fb = true by rw [← HFb.out, hq]; simp [h3, h1, h5])
            have h5d : decide (fn ≤ 599) = true := decide_eq_true h5
            go_wp2_with ((with_reducible refine (HI.out _ HE2.out).mono ?_); rintro e w3 ⟨rfl, g3⟩; have G3 := Lib.hid g3; clear g3)
            go_ret
            exact ⟨by rw [HBv.out]; rfl, HPut.out.below G3.out HPut.out.lt, HGr.out.andThen (grown_of_below G3.out none) (fun j e => by cases e)⟩
          · have HBv := Lib.hid (show fb = false by rw [← HFb.out]; simp [h5])
            have h5d : decide (fn ≤ 599) = false := decide_eq_false h5
            go_wp2_with ((with_reducible refine (HI.out _ HE2.out).mono ?_); rintro e w3 ⟨rfl, g3⟩; have G3 := Lib.hid g3; clear g3)
            go_ret
            exact ⟨by rw [HBv.out]; rfl, HPut.out.below G3.out HPut.out.lt, HGr.out.andThen (grown_of_below G3.out none) (fun j e => by cases e)⟩
        · have HBv := Lib.hid (show fb = false by rw [← HFb.out]; simp [h1])
          go_wp2_with ((with_reducible refine (HI.out _ HE2.out).mono ?_); rintro e w3 ⟨rfl, g3⟩; have G3 := Lib.hid g3; clear g3)
          go_ret
          exact ⟨by rw [HBv.out]; rfl, HPut.out.below G3.out HPut.out.lt, HGr.out.andThen (grown_of_below G3.out none) (fun j e => by cases e)⟩
    · have hx3 : ((x.size : Int) == 3) = false := by rw [beq_eq_false_iff_ne]; omega
      have HBv := Lib.hid (show fb = false by rw [← HFb.out]; simp [h3])
      go_wp2
      go_ret
      exact ⟨by rw [HBv.out]; rfl, HPut.out, HGr.out⟩
  · have HBv := Lib.hid (show fb = false by rw [← HFB.out]; exact stat_no x 0 hno)
    clear hno hb1
    go_wp2
    go_ret
    exact ⟨by rw [HBv.out]; rfl, HPut.out, HGr.out⟩
def rT (g : Nat) : RuleF Int × Value := (takeT, .func (.func 77) #[] #[.pointer (some ⟨g, 0, none⟩)])
theorem res10 (tmps : Array Value) (w : World) (b : Nat) (a0 a1 ev : Value) (ht : tmps[2]? = some (.pointer (some ⟨b, 0, none⟩))) (h3 : tmps[3]? = some ev) (hb : Blk w b 97 #[a0, a1]) :
    (results Tryz.f48 tmps).run Tryz.prog w = .ok (.tuple #[.agg #[a0, a1], ev]) w := by
  have c0 : w.cell? ⟨b, 0, none⟩ = some a0 := hb.cell 0
  have c1 : w.cell? ⟨b, 1, none⟩ = some a1 := hb.cell 1
  simp [results, Tryz.results48, go_sem, ht, h3, c0, c1]
def AnsPost (e1 : Addr) (w : World) (r : Option (List HdrV × Int)) (e : Ending) (w' : World) : Prop :=
  Below w.heap.size w w' ∧ ((r = none ∧ e = .returned (.tuple #[.agg #[.int .i64 0, .slice none 0 0], errH e1])) ∨
    ∃ rest s, r = some (rest, s) ∧ ∃ A c, e = .returned (.tuple #[.agg #[.int .i64 s, .slice A rest.length c], .nilIface]) ∧ Hw w' w.heap.size (.slice A rest.length c) rest)
/-- While the rule of an answer is laid. -/
structure OaF (w : World) (rs : List (RuleF Int × Value)) (k : Nat) (W : World) : Prop where
  bel : Below w.heap.size w W
  req : Blk W (w.heap.size + 1) 97 (ansCells 0)
  res : Blk W w.heap.size 97 (ansCells 0)
  rm : RM W (w.heap.size + 1 + 1) k rs
theorem OaF.start (w : World) : OaF w [] 0 (((w.alloc (.cells (ansCells 0) 97)).alloc (.cells (ansCells 0) 97)).alloc (.map #[] 0)) := by
  have s1 : (w.alloc (.cells (ansCells 0) 97)).heap.size = w.heap.size + 1 := by simp
  have s2 : ((w.alloc (.cells (ansCells 0) 97)).alloc (.cells (ansCells 0) 97)).heap.size = w.heap.size + 1 + 1 := by simp
  refine ⟨(((Below.refl _ _).alloc (Nat.le_refl _) _).alloc (by rw [s1]; omega) _).alloc (by rw [s2]; omega) _, ?_, ?_, ?_⟩
  · have := (Blk.new (w.alloc (.cells (ansCells 0) 97)) 97 (ansCells 0)).alloc (.map #[] 0)
    rw [s1] at this; exact this
  · exact ((Blk.new w 97 (ansCells 0)).alloc _).alloc _
  · have := World.ownsMap_made ((w.alloc (.cells (ansCells 0) 97)).alloc (.cells (ansCells 0) 97)) Tryz.prog 9 R6
    rw [s2] at this
    exact ⟨_, this, RD_nil⟩
theorem OaF.laid {w W W' : World} {rs rs' : List (RuleF Int × Value)} {k k' : Nat} (h : OaF w rs k W) (hg : W.grownBy W' (some (w.heap.size + 1 + 1))) (hm : RM W' (w.heap.size + 1 + 1) k' rs') : OaF w rs' k' W' :=
  ⟨h.bel.grown hg h.bel.size (fun j e => by injection e with e; omega), h.req.grown hg (fun e => by injection e with e; omega), h.res.grown hg (fun e => by injection e with e; omega), hm⟩
set_option maxHeartbeats 4000000 in
set_option maxRecDepth 100000 in
theorem openAnswer_any (A : Option Addr) (n c : Nat) (l : List HdrV) (w : World) {e1 e2 e3 : Addr} (he : EnvH w e1 e2 e3) (hn : n ≤ 100000) (hnc : n ≤ c) (hr : Hr w A n l) (hz : Szs l) :
    Calls Tryz.prog 48 #[.slice A n c] w (AnsPost e1 w (openS rules1 l 0)) := by
  have HE := Lib.hid he
  have HR := Lib.hid hr
  have HZ := Lib.hid hz
  have HN := Lib.hid (And.intro hn hnc)
  clear he hr hz hn hnc
  have hmm := @run_mkMap Tryz.prog
  have HO1 := Lib.hid (OaF.start w)
  simp only [ansCells] at HO1
  go_enter Tryz.func48, Tryz.ntmps48
  go_wp2_with (refine wpList_lay_rule _ rfl (.tmp 9) (.const (.string ⟨#[58, 115, 116, 97, 116, 117, 115]⟩)) (.tmp 11) rfl (w.heap.size + 1 + 1) 0 [] rfl HO1.out.rm (by omega) (rT (w.heap.size + 1)) ⟨#[58, 115, 116, 97, 116, 117, 115]⟩ (by decide) rfl rfl rfl rfl ?_; intro w5 hm5 hg5; have HO6 := Lib.hid (HO1.out.laid hg5 hm5); clear hm5 hg5)
  have HSp := Lib.hid (split_any (w.heap.size + 1) 97 ansCells [rT (w.heap.size + 1)] 0 A n c l (w.heap.size + 1 + 1) 1 w5 (HE.out.below HO6.out.bel HE.out.room)
    ⟨HO6.out.rm.lt, HO6.out.req.lt, by omega, by have := HE.out.room; omega, fun hp ad e => by have := HR.out.alt hp ad e; omega⟩ HN.out.1 HN.out.2 (HR.out.below HO6.out.bel) HZ.out HO6.out.req HO6.out.rm (fun r hr => by
      simp only [List.mem_cons, List.not_mem_nil, or_false] at hr
      subst hr
      exact take_stat _ w5 (HE.out.below HO6.out.bel HE.out.room) (by have := HE.out.room; omega)) (by show [colT].Nodup; decide))
  refine HSp.out.mono ?_
  rintro e w6 ⟨g6, h6⟩
  rw [show ([rT (w.heap.size + 1)] : List (RuleF Int × Value)).map (·.1) = rules1 from rfl] at h6
  have hres := HO6.out.res.grown g6 (fun e => by injection e with e; omega)
  have HB6 := Lib.hid (below_box HO6.out.bel g6 (by omega))
  have HRes := Lib.hid hres
  clear g6 hres HSp
  have r0 := HRes.out.cell 0
  have r1 := HRes.out.cell 1
  have q0 := HRes.out.frozen 0
  have q1 := HRes.out.frozen 1
  simp only [ansCells] at r0 r1
  rcases h6 with ⟨h6, A6, n6, c6, rfl⟩ | ⟨rest, s, h6, A6, c6, rfl, hw6, hs6⟩
  · have H6 := Lib.hid h6
    clear h6
    have hce := (HE.out.below HB6.out HE.out.room).head
    have hn0 : w.heap.size ≠ 4 := by have := HE.out.room; omega
    have hn1 : ¬ (4 = w.heap.size) := fun e => hn0 e.symm
    go_wp2
    go_region
    all_goals
      go_wp2
      have hb0 := ((HRes.out.put 0 (.int .i64 0)).put 1 (.slice none 0 0)).drewN 1
      refine bodyPost_ret (res10 _ _ w.heap.size (.int .i64 0) (.slice none 0 0) (errH e1) rfl rfl hb0) rfl ⟨below_drewN ((HB6.out.setCell (Nat.le_refl _) _).setCell (Nat.le_refl _) _) 1, .inl ⟨H6.out, rfl⟩⟩
  · have H6 := Lib.hid h6
    have HW6 := Lib.hid hw6
    have HS6 := Lib.hid hs6
    clear h6 hw6 hs6
    have s0 := HS6.out.cell 0
    have s1 := HS6.out.cell 1
    have z1 := HS6.out.frozen 1
    simp only [ansCells] at s0 s1
    go_wp2
    have hb0 : Blk (((w6.setCell ⟨w.heap.size + 1, 1, none⟩ (.slice A6 rest.length c6)).setCell ⟨w.heap.size, 0, none⟩ (.int .i64 s)).setCell ⟨w.heap.size, 1, none⟩ (.slice A6 rest.length c6)) w.heap.size 97 #[.int .i64 s, .slice A6 rest.length c6] :=
      ((HRes.out.far (show w.heap.size ≠ w.heap.size + 1 by omega) _).put 0 _).put 1 _
    have hbel : Below w.heap.size w (((w6.setCell ⟨w.heap.size + 1, 1, none⟩ (.slice A6 rest.length c6)).setCell ⟨w.heap.size, 0, none⟩ (.int .i64 s)).setCell ⟨w.heap.size, 1, none⟩ (.slice A6 rest.length c6)) :=
      ((HB6.out.setCell (Nat.le_succ _) _).setCell (Nat.le_refl _) _).setCell (Nat.le_refl _) _
    refine bodyPost_ret (res10 _ _ w.heap.size _ _ _ rfl rfl hb0) rfl ⟨hbel, .inr ⟨rest, s, H6.out, A6, c6, rfl, ?_⟩⟩
    have h5 := HO6.out.bel.size
    have hlt : w.heap.size + 1 < w5.heap.size := HO6.out.req.lt
    exact (hw_put (by show w.heap.size < _; omega) (hw_put (by show w.heap.size < _; omega) (hw_put (by show w.heap.size + 1 < _; omega) HW6.out))).base h5
end Go.Proofs.YtdkfbkjmhgbppaaGreatDoor.H6
end

section
namespace Go.Proofs.YtdkfbkjmhgbppaaGreatDoor
open Go.RowKit Go.Own Go.Own.Im Go.Own.Cx Go.Own.Fr Go.Own.Hd
/-- A server that has answered a stream. -/
def answM (M : Cv) (s : Sv) (fin : Bool) (ix : List Nat) : Cv :=
  finM { M with strs := updS M.strs { s with own := 1 }, out := M.out ++ frameB 1 (hfl fin) s.id (ixB ix) } { s with own := 1 } fin
set_option maxHeartbeats 8000000 in
set_option maxRecDepth 100000 in
theorem answer_any (w : World) (ow : Nat → Tg) (b : Nat) (M : Cv) (L : Lay) (s : Sv) (id : Int) (A : Option Addr) (c : Nat) (hs : List HdrV) (ix : List Nat) (fin : Bool) (rest : List HdrV) (st : Int) (hE : Env w ow) (h : CN w ow b M L) (hd : M.dead = false) (hside : M.side = 2) (hst : strAt M id = some s) (hw : (Lit.int .i64 id).wf = true) (ho0 : s.own = 0) (hh : s.held = 0) (hpos : s.id ≠ 0) (hid : s.id ≤ 2147483647) (hu : (M.strs.map (·.id)).Nodup) (ho : M.out.length ≤ 1000000000)
    (hr : Cm.RS hdrC 3 w w.heap.size A hs.length hs) (hown : ∀ ad, A = some ad → ow ad.block = .no) (hix : Ix8 ix hs) (hnv : ∀ x ∈ hs, x.never = false) (hlen : hs.length ≤ 100) (hlc : hs.length ≤ c) (hz : ∀ x ∈ hs, x.name.size ≤ 1000000 ∧ x.value.size ≤ 1000000) (hsz : hszs hs ≤ 16384) (hSz : H6.Szs hs) (hop : openS rules1 hs 0 = some (rest, st)) (h200 : 200 ≤ st) :
    Calls Tryz.prog 21 #[.pointer (some ⟨b, 0, none⟩), .int .i64 id, .slice A hs.length c, .bool fin] w (CPost w ow b (answM M s fin ix) .nilIface) := by
  obtain ⟨h1, hmem, h3⟩ := at_some (L := L) hst
  have HE := Lib.hid hE
  have HC := Lib.hid h
  have HR := Lib.hid (fun W owW (hf : Fr w ow W owW) => rs_fr hr hf hown)
  have HH := Lib.hid (show _ ∧ _ ∧ _ ∧ _ ∧ _ ∧ _ ∧ _ from ⟨hmem, hid, hu, ho, ho0, hh, hpos⟩)
  have HHs := Lib.hid (show _ ∧ _ ∧ _ ∧ _ ∧ _ ∧ _ ∧ _ from ⟨hix, hnv, hlen, hlc, hz, hsz, hSz⟩)
  have HV := Lib.hid h3.symm
  have HOp := Lib.hid (fun W (hb : Below w.heap.size w W) => (show Calls Tryz.prog 48 #[.slice A hs.length c] W fun e w' => ∃ A' c', e = .returned (.tuple #[.agg #[.int .i64 st, .slice A' rest.length c'], .nilIface]) ∧ Below W.heap.size W w' from by
    obtain ⟨e1, e2, e3, heh⟩ := (hE.fr (Fr.below hb ow)).env
    refine (H6.openAnswer_any A hs.length c hs W heh (by omega) hlc (hr_of ((hr.below hb).more hb.size)) hSz).mono ?_
    rintro e w' ⟨hb', h2 | ⟨r, s', h2, A', c', h3, _⟩⟩
    · rw [h2.1] at hop; cases hop
    · rw [hop] at h2
      injection h2 with h2
      injection h2 with h2 h4
      subst h2 h4
      exact ⟨A', c', h3, hb'⟩))
  have HLg := Lib.hid (fun W owW (hf : Fr w ow W owW) => large_no W A c hs (rs_fr hr hf hown) (by omega) hz hsz)
  have c19 : w.cell? ⟨b, 19, none⟩ = some (.bool M.dead) := h.blk.cell 19
  have c0 : w.cell? ⟨b, 0, none⟩ = some (.int .i64 (M.side : Nat)) := h.blk.cell 0
  have c15 : w.cell? ⟨b, 15, none⟩ = some (.map (some L.mb)) := h.blk.cell 15
  have hlk := look_str h id hw
  have d1 : w.cell? ⟨(L.s s.id).sb, 1, none⟩ = some (.int .i64 (s.own : Nat)) := (h.p.strs s hmem).blk.cell 1
  rw [ho0] at d1
  rw [hd] at c19
  rw [hside] at c0
  rw [h1] at hlk
  have HSb := Lib.hid (show (L.s s.id).sb = (L.s s.id).sb from rfl)
  have hk := fun W (hc : CN W ow b M L) => hc.strcell (s' := { s with own := 1 }) hmem rfl 1 (.int .i64 1) rfl rfl rfl rfl
  have HKc := Lib.hid hk
  have k2 : ¬ st < 200 := by omega
  clear h hd hside hr hu hown hix hnv hlc hz hsz hSz hop hE ho hid hk hst h1 h3 hmem hh hpos ho0
  generalize hlen2 : hs.length = n at *
  have HLen := Lib.hid hlen2
  clear hlen2 hlen
  obtain ⟨sb, hsb⟩ : ∃ g, (L.s s.id).sb = g := ⟨_, rfl⟩
  have HB := Lib.hid hsb
  rw [hsb] at hlk d1
  clear hsb HSb
  go_enter Tryz.func21, Tryz.ntmps21
  go_wp2_with fail
  refine Calls.mono (HOp.out w (Below.refl _ _)) ?_
  rintro e w2 ⟨A', c', rfl, hb2⟩
  have HB3 := Lib.hid (hb2.alloc hb2.size (.cells #[.int .i64 st, .slice A' rest.length c'] 97))
  have HX3 := Lib.hid (Blk.new w2 97 #[.int .i64 st, .slice A' rest.length c'])
  clear hb2
  go_wp2_with fail
  generalize w2.alloc (.cells #[.int .i64 st, .slice A' rest.length c'] 97) = W3 at *
  refine Calls.mono (HLg.out W3 ow (Fr.below HB3.out ow)) ?_
  rintro e w4 ⟨rfl, hb4⟩
  have HB4 := Lib.hid (HB3.out.trans (hb4.mono HB3.out.size))
  have HC4 := Lib.hid (HC.out.below HB4.out)
  have hk4 := HKc.out w4 HC4.out
  have hs4 := (HC4.out.p.strs s HH.out.1).blk
  rw [HB.out] at hk4 hs4
  have HK4 := Lib.hid hk4
  have d1' : w4.cell? ⟨sb, 1, none⟩ = some (.int .i64 (s.own : Nat)) := hs4.cell 1
  have f1' := hs4.frozen 1
  clear hb4 hk4 hs4 c19 c0 c15 hlk d1 k2
  go_wp2_with fail
  clear d1' f1'
  generalize w4.setCell ⟨sb, 1, none⟩ (.int .i64 1) = W5 at *
  have HF5 := Lib.hid ((Fr.below HB4.out ow).trans HK4.out.2)
  refine Calls.mono (heads_v HV.out n c fin A hs ix HLen.out HK4.out.1 (HR.out W5 ow HF5.out) HHs.out.1 HHs.out.2.1 (by rw [HLen.out]; have := HHs.out.2.2.1; omega) HH.out.2.2.2.2.2.2 HH.out.2.1 HH.out.2.2.2.1 (HE.out.fr HF5.out)) ?_
  rintro e w6 ⟨ow6, L6, rfl, hc6, hf6, hs6⟩
  have HFin := finishes_any w6 ow6 b _ L6 { s with own := 1 } fin hc6 (mem_updS HH.out.1 rfl) HH.out.2.2.2.2.2.1 HH.out.2.1 (by show ((updS M.strs _).map (·.id)).Nodup; rw [updS_ids]; exact HH.out.2.2.1)
  rw [show (L6.s ({ s with own := 1 } : Sv).id).sb = sb from by rw [hs6]; exact HB.out] at HFin
  have HFin := Lib.hid HFin
  have HF6 := Lib.hid (HF5.out.trans hf6)
  clear hc6 hf6 hs6
  go_wp2_with fail
  refine HFin.out.mono ?_
  intro e w7 hp
  obtain rfl := hp.ret
  have HP := Lib.hid hp
  clear hp
  go_wp2
  go_ret
  obtain ⟨ow7, L7, _, hc7, hf7⟩ := HP.out
  exact ⟨ow7, L7, rfl, hc7, HF6.out.trans hf7⟩
end Go.Proofs.YtdkfbkjmhgbppaaGreatDoor
end

section
namespace Go.Proofs.YtdkfbkjmhgbppaaGreatDoor
open Go.RowKit Go.Own Go.Own.Im Go.Own.Cx Go.Own.Fr Go.Own.Hd
theorem Fr.grownNew {w w1 w2 : World} {ow ow1 : Nat → Tg} {row : Option Nat} (h : Fr w ow w1 ow1) (hg : w1.grownBy w2 row) (hr : ∀ g, row = some g → w.heap.size ≤ g) : Fr w ow w2 ow1 :=
  ⟨hg.os.trans h.os, hg.tape.trans h.tape, hg.output.trans h.output, Nat.le_trans h.size hg.size, fun g hlt ho => (hg.block g (Nat.lt_of_lt_of_le hlt h.size) (fun e => by have := hr g e.symm; omega)).trans (h.keep g hlt ho), h.no⟩
theorem CN.aside {w w2 : World} {ow : Nat → Tg} {b : Nat} {M : Cv} {L : Lay} {row : Option Nat} (h : CN w ow b M L) (hg : w.grownBy w2 row) (hr : ∀ g, row = some g → ow g = .no) : CN w2 ow b M L :=
  h.keep hg.size fun g hn hlt => hg.block g hlt (fun e => hn (hr g e.symm))
theorem wf1 : (Lit.int .i64 (1 : Int)).wf = true := by decide
theorem base_g (lim : Nat) : ({ gM 2 lim with out := [] } : Cv) = stM lim 0 := by
  have e : (List.range (min 0 lim)).map oS = [] := by rw [Nat.zero_min]; rfl
  show _ = ({ baseM lim with last := 0, strs := (List.range (min 0 lim)).map oS, out := refB lim (0 - lim) } : Cv)
  rw [e, Nat.zero_sub]
  rfl
def hSt : HdrV := ⟨⟨#[58, 115, 116, 97, 116, 117, 115]⟩, ⟨#[50, 48, 48]⟩, false⟩
theorem ixSt : Ix8 [8] [hSt] := ⟨rfl, trivial⟩
theorem hSt_nv : ∀ x ∈ [hSt], x.never = false := by
  intro x hx
  rcases List.mem_singleton.1 hx with rfl
  rfl
theorem hSt_sz : ∀ x ∈ [hSt], x.name.size ≤ 1000000 ∧ x.value.size ≤ 1000000 := by
  intro x hx
  rcases List.mem_singleton.1 hx with rfl
  exact ⟨by decide, by decide⟩
theorem hSt_szs : H6.Szs [hSt] := by
  intro h hm
  rcases List.mem_singleton.1 hm with rfl
  decide
theorem hSt_ans : openS rules1 [hSt] 0 = some ([], 200) := by kernel_rfl
/-- The same, behind i streams, where nothing is to be sent. -/
def qM (lim i : Nat) : Cv := { stM lim i with out := [] }
theorem q_still (lim i : Nat) : ∀ s ∈ (stM lim i).strs, Still s ∧ s.id ≤ 2 * i := by
  intro s hs
  change s ∈ (List.range (min i lim)).map oS at hs
  obtain ⟨k, hk, rfl⟩ := List.mem_map.1 hs
  have := List.mem_range.1 hk
  exact ⟨⟨rfl, show (0 : Nat) ≠ 2 by decide⟩, by rw [oS_id]; omega⟩
theorem q_first (lim i : Nat) (h1 : 0 < lim) (h2 : lim ≤ i) : strAt (qM lim i) 1 = some (oS 0) := by
  show ((List.range (min i lim)).map oS).find? _ = _
  obtain ⟨m, hm⟩ : ∃ m, min i lim = m + 1 := ⟨min i lim - 1, by omega⟩
  rw [hm, List.range_succ_eq_map]
  rfl
/-- A stream was answered, and has left. -/
def lM (lim i : Nat) : Cv := { qM lim i with strs := (stM lim i).strs.filter fun s => s.id != 1 }
theorem answ_l (lim i : Nat) : ({ answM (qM lim i) (oS 0) true [8] with out := [] } : Cv) = lM lim i := by
  unfold answM finM
  rw [if_pos rfl, if_pos (show ({ oS 0 with own := 1 } : Sv).other = 3 from rfl)]
  have e := drop_upd (qM lim i).strs { oS 0 with own := 1 }
  have e2 : ((updS (qM lim i).strs { oS 0 with own := 1 }).filter fun s => s.id != 1) = (stM lim i).strs.filter fun s => s.id != 1 := e
  show ({ qM lim i with strs := (updS (qM lim i).strs { oS 0 with own := 1 }).filter fun s => s.id != 1, out := [] } : Cv) = _
  rw [e2]
  rfl
theorem answ_strs (lim i : Nat) : (answM (qM lim i) (oS 0) true [8]).strs = (lM lim i).strs := by
  have h := congrArg Cv.strs (answ_l lim i)
  exact h
theorem l_sorted (lim i : Nat) : ((lM lim i).strs.map (·.id)).Pairwise (· < ·) := (stM_sorted lim i).sublist ((List.filter_sublist).map _)
theorem l_mem (lim i : Nat) : ∀ s ∈ (lM lim i).strs, Still s ∧ s.id ≤ 2 * i := fun s hs => q_still lim i s (List.mem_filter.1 hs).1
theorem l_len (lim i : Nat) (h1 : 0 < lim) (h2 : lim ≤ i) : (lM lim i).strs.length < lim := by
  have e : (stM lim i).strs.length = lim := by rw [stM_len]; omega
  have hm : oS 0 ∈ (stM lim i).strs := List.mem_map.2 ⟨0, List.mem_range.2 (by omega), rfl⟩
  have h := (List.length_filter_lt_length_iff_exists (p := fun s : Sv => s.id != 1)).2 ⟨oS 0, hm, by show ¬ ((oS 0).id != 1) = true; decide⟩
  have h2 : (lM lim i).strs.length < (stM lim i).strs.length := h
  omega
theorem l_none (lim i : Nat) : strAt (lM lim i) ((2 * i + 1 : Nat) : Int) = none := by
  refine List.find?_eq_none.2 fun s hs => ?_
  have := (l_mem lim i s hs).2
  simp
  omega
theorem runsS_again (lim i : Nat) (h1 : 0 < lim) (h2 : lim ≤ i) (hi : i ≤ 1000) : Runs 1 { lM lim i with evs := [], fed := (lM lim i).fed ++ frameB 1 5 (2 * i + 1) b3 } (fun M' => ∃ A c, M' = opnM (lM lim i) (2 * i + 1) true hs3 A c) := by
  have hlen := l_len lim i h1 h2
  have hcs : (lM lim i).cs = (lim : Int) := rfl
  refine .more rfl (step_takes _ _ 1 5 (2 * i + 1) b3 [] rfl (by show frameB 1 5 (2 * i + 1) b3 = _; rw [List.append_nil]) (by decide) (by decide) (by omega) (by decide) (flag5 ▸ takes_open (lM lim i) (2 * i + 1) true b3 hs3 ix3 (by decide) rfl rfl rfl (by omega) (stM_known lim i) (l_none lim i) (by omega) (fun s hs => by have := (l_mem lim i s hs).2; omega) (by rw [hcs]; omega) rfl (show (0 : Int) ≤ 65535 ∧ (65535 : Int) ≤ 2147483647 by decide) (show (0 : Int) ≤ 65535 ∧ (65535 : Int) ≤ 2147483647 by decide) (by omega) ((l_sorted lim i).imp fun h => Nat.ne_of_lt h) (by decide) (Nat.zero_le _) szs3 opn3)) fun M1 h1 => ?_
  obtain ⟨A, c, rfl⟩ := h1
  exact .stop rfl ((step_few _ rfl (by show ([] : List UInt8).length < 9; decide)).mono fun M' h' => ⟨A, c, h'⟩)
end Go.Proofs.YtdkfbkjmhgbppaaGreatDoor
end
