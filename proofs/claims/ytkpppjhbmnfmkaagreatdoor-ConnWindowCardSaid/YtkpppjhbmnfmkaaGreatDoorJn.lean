/-
  Contracts: the functions of the rules of requests; head.Open.
  What head.Open says of a list that is a request, in the words of an end.
-/
import Derived.Test.YtkpppjhbmnfmkaaGreatDoorSw
import Derived.RegionTactic
import Derived.Test.YtkpppjhbmnfmkaaGreatDoorJk
set_option linter.unusedSimpArgs false
set_option linter.unusedVariables false
section
namespace Go.Own.Hd
/-- What the headers with colons of a request say. -/
structure Req4 where
  m : ByteArray
  s : ByteArray
  a : ByteArray
  p : ByteArray
def reqCells (r : Req4) : Array Value := #[.string r.m, .string r.s, .string r.a, .string r.p, .slice none 0 0]
def colM : List UInt8 := [58, 109, 101, 116, 104, 111, 100]
def colS : List UInt8 := [58, 115, 99, 104, 101, 109, 101]
def colP : List UInt8 := [58, 112, 97, 116, 104]
def colA : List UInt8 := [58, 97, 117, 116, 104, 111, 114, 105, 116, 121]
def takeM : RuleF Req4 := ⟨colM, true, fun v r => (!v.toList.isEmpty, { r with m := v })⟩
def takeS : RuleF Req4 := ⟨colS, true, fun v r => (!v.toList.isEmpty, { r with s := v })⟩
def takeP : RuleF Req4 := ⟨colP, true, fun v r => (v.toList == [42] || Lib.hasPrefix v.data.toList [47], { r with p := v })⟩
def takeA : RuleF Req4 := ⟨colA, false, fun v r => (true, { r with a := v })⟩
def rules4 : List (RuleF Req4) := [takeM, takeS, takeP, takeA]
def req0 : Req4 := ⟨⟨#[]⟩, ⟨#[]⟩, ⟨#[]⟩, ⟨#[]⟩⟩
end Go.Own.Hd
namespace Go.Proofs.YtkpppjhbmnfmkaaGreatDoor.H6
open Go.RowKit Go.Own Go.Own.Hd Go.Own.Fn Go.WideShapes
theorem some_any (ad : Addr) (w : World) : Calls Tryz.prog 88 #[.pointer (some ad)] w fun e w' => e = .returned (.func (.func 89) #[] #[.pointer (some ⟨w.heap.size, 0, none⟩)]) ∧ w' = w.alloc (.cells #[.pointer (some ad)] 165) := by
  go_enter Tryz.func88, Tryz.ntmps88
  go_wp2
  go_ret
  exact ⟨rfl, rfl⟩
/-- What is stored in one cell of the state's block. -/
theorem box_put {σ : Type} {g : Nat} {T : TypeId} {cells : σ → Array Value} {s s' : σ} {w : World} {i : Nat} {v : Value} (h : Blk w g T (cells s)) (he : (cells s).setIfInBounds i v = cells s') : Blk (w.setCell ⟨g, i, none⟩ v) g T (cells s') := he ▸ h.put i v
set_option maxRecDepth 100000 in
theorem take_text (g i b : Nat) (f : ByteArray → Req4 → Req4) (hi : i < 4) (hf : ∀ v r, (reqCells r).setIfInBounds i (.string v) = reqCells (f v r)) (w : World) (hb : Blk w b 165 #[.pointer (some ⟨g, i, none⟩)]) (hne : b ≠ g) :
    Fnc Tryz.prog (boxS g 115 reqCells) txtL (isG g) (.func (.func 89) #[] #[.pointer (some ⟨b, 0, none⟩)]) (fun v r => (!v.toList.isEmpty, f v r)) w := by
  refine ⟨89, #[], #[.pointer (some ⟨b, 0, none⟩)], rfl, enters_of Tryz.func89 (by kernel_rfl) rfl, fun W s xv x hW hS hx => ?_⟩
  obtain ⟨rfl, hsz⟩ := hx
  have hS : Blk W g 115 (reqCells s) := hS
  have hb2 : Blk W b 165 #[.pointer (some ⟨g, i, none⟩)] := Fn.Blk.kx hb hW hne
  have HS := Lib.hid hS
  have c0 : W.cell? ⟨b, 0, none⟩ = some (.pointer (some ⟨g, i, none⟩)) := hb2.cell 0
  have c1 : ∃ u, W.cell? ⟨g, i, none⟩ = some u := by
    have : i < (reqCells s).size := Nat.lt_trans hi (show 4 < 5 by decide)
    exact ⟨_, (hS.cell i).trans (Array.getElem?_eq_getElem this)⟩
  obtain ⟨u, c1⟩ := c1
  have c2 := hS.frozen i
  have HF := Lib.hid (hf x s)
  show Calls Tryz.prog 89 #[.string x, .pointer (some ⟨b, 0, none⟩)] W fun e w' => ∃ yv, e = .returned yv ∧ txtL.RY w' yv (!x.toList.isEmpty) ∧ Blk w' g 115 (reqCells (f x s)) ∧ W.grownBy w' (some g)
  obtain ⟨s', hs'⟩ : ∃ s', f x s = s' := ⟨_, rfl⟩
  rw [hs'] at HF ⊢
  clear hb hW hS hb2 hf hi hs'
  go_enter Tryz.func89, Tryz.ntmps89
  go_wp2
  go_ret
  exact ⟨_, rfl, rfl, box_put HS.out HF.out, grown_setCell (World.grownBy.refl _ _) _ _⟩
set_option maxRecDepth 100000 in
theorem take_auth (g : Nat) (w : World) : Fnc Tryz.prog (boxS g 115 reqCells) txtL (isG g) (.func (.func 93) #[] #[.pointer (some ⟨g, 0, none⟩)]) takeA.take w := by
  refine ⟨93, #[], #[.pointer (some ⟨g, 0, none⟩)], rfl, enters_of Tryz.func93 (by kernel_rfl) rfl, fun W s xv x hW hS hx => ?_⟩
  obtain ⟨rfl, hsz⟩ := hx
  have hS : Blk W g 115 (reqCells s) := hS
  have HS := Lib.hid hS
  have c1 : W.cell? ⟨g, 2, none⟩ = some (.string s.a) := hS.cell 2
  have c2 := hS.frozen 2
  show Calls Tryz.prog 93 #[.string x, .pointer (some ⟨g, 0, none⟩)] W _
  clear hW hS
  go_enter Tryz.func93, Tryz.ntmps93
  go_wp2
  go_ret
  exact ⟨_, rfl, rfl, (show Blk _ g 115 (reqCells { s with a := x }) from box_put (i := 2) (v := .string x) (s' := { s with a := x }) HS.out rfl), grown_setCell (World.grownBy.refl _ _) _ _⟩
set_option maxRecDepth 100000 in
theorem take_path (g : Nat) (w : World) : Fnc Tryz.prog (boxS g 115 reqCells) txtL (isG g) (.func (.func 91) #[] #[.pointer (some ⟨g, 0, none⟩)]) takeP.take w := by
  refine ⟨91, #[], #[.pointer (some ⟨g, 0, none⟩)], rfl, enters_of Tryz.func91 (by kernel_rfl) rfl, fun W s xv x hW hS hx => ?_⟩
  obtain ⟨rfl, hsz⟩ := hx
  have hS : Blk W g 115 (reqCells s) := hS
  have HS := Lib.hid hS
  have c1 : W.cell? ⟨g, 3, none⟩ = some (.string s.p) := hS.cell 3
  have c2 := hS.frozen 3
  show Calls Tryz.prog 91 #[.string x, .pointer (some ⟨g, 0, none⟩)] W _
  have HP := Lib.hid (fun W => (Tryz.strings_HasPrefix x ⟨#[47]⟩ W).mono (fun e w' h => (⟨h.1, h.2.symm⟩ : e = .returned (.bool (Lib.hasPrefix x.data.toList [47])) ∧ W = w')))
  obtain ⟨hb, hhb⟩ : ∃ b, Lib.hasPrefix x.data.toList [47] = b := ⟨_, rfl⟩
  rw [hhb] at HP
  obtain ⟨q, hq⟩ : ∃ b, (x.toList == [42]) = b := ⟨_, rfl⟩
  have HT := Lib.hid (show (takeP.take x s) = (q || hb, { s with p := x }) by show (x.toList == [42] || Lib.hasPrefix x.data.toList [47], _) = _; rw [hq, hhb])
  clear hW hS hhb
  rcases q with _ | _
  · go_enter Tryz.func91, Tryz.ntmps91
    go_wp2_with ((with_reducible refine (HP.out _).mono ?_); rintro e w1 ⟨rfl, rfl⟩)
    go_ret
    exact ⟨_, rfl, by rw [HT.out]; rfl, by rw [HT.out]; exact box_put (i := 3) (v := .string x) (s' := { s with p := x }) HS.out rfl, grown_setCell (World.grownBy.refl _ _) _ _⟩
  · go_enter Tryz.func91, Tryz.ntmps91
    go_wp2
    go_ret
    exact ⟨_, rfl, by rw [HT.out]; rfl, by rw [HT.out]; exact box_put (i := 3) (v := .string x) (s' := { s with p := x }) HS.out rfl, grown_setCell (World.grownBy.refl _ _) _ _⟩
/-- The rules of requests, as they lie. -/
def rs4 (g b1 b2 : Nat) : List (RuleF Req4 × Value) := [(takeM, .func (.func 89) #[] #[.pointer (some ⟨b1, 0, none⟩)]), (takeS, .func (.func 89) #[] #[.pointer (some ⟨b2, 0, none⟩)]), (takeP, .func (.func 91) #[] #[.pointer (some ⟨g, 0, none⟩)]), (takeA, .func (.func 93) #[] #[.pointer (some ⟨g, 0, none⟩)])]
theorem rs4_rules (g b1 b2 : Nat) : (rs4 g b1 b2).map (·.1) = rules4 := rfl
theorem rs4_nodup (g b1 b2 : Nat) : ((rs4 g b1 b2).map (·.1.name)).Nodup := by show [colM, colS, colP, colA].Nodup; decide
theorem rs4_fn (g b1 b2 : Nat) (w : World) (h1 : Blk w b1 165 #[.pointer (some ⟨g, 0, none⟩)]) (h2 : Blk w b2 165 #[.pointer (some ⟨g, 1, none⟩)]) (n1 : b1 ≠ g) (n2 : b2 ≠ g) : RF g 115 reqCells (rs4 g b1 b2) w := by
  intro r hr
  simp only [rs4, List.mem_cons, List.not_mem_nil, or_false] at hr
  rcases hr with rfl | rfl | rfl | rfl
  · exact take_text g 0 b1 (fun v r => { r with m := v }) (by decide) (fun _ _ => rfl) w h1 n1
  · exact take_text g 1 b2 (fun v r => { r with s := v }) (by decide) (fun _ _ => rfl) w h2 n2
  · exact take_path g w
  · exact take_auth g w
theorem res9 (tmps : Array Value) (w : World) (b : Nat) (cs : Array Value) (ev : Value) (ht : tmps[2]? = some (.pointer (some ⟨b, 0, none⟩))) (h3 : tmps[3]? = some ev) (hc : cs.size = 5) (hb : Blk w b 115 cs) :
    (results Tryz.f57 tmps).run Tryz.prog w = .ok (.tuple #[.agg cs, ev]) w := by
  have h0 : ∃ a0 a1 a2 a3 a4, cs = #[a0, a1, a2, a3, a4] := by
    obtain ⟨l⟩ := cs
    rcases l with _ | ⟨a0, _ | ⟨a1, _ | ⟨a2, _ | ⟨a3, _ | ⟨a4, _ | ⟨a5, l⟩⟩⟩⟩⟩⟩ <;> simp at hc
    exact ⟨a0, a1, a2, a3, a4, rfl⟩
  obtain ⟨a0, a1, a2, a3, a4, rfl⟩ := h0
  have c0 : w.cell? ⟨b, 0, none⟩ = some a0 := hb.cell 0
  have c1 : w.cell? ⟨b, 1, none⟩ = some a1 := hb.cell 1
  have c2 : w.cell? ⟨b, 2, none⟩ = some a2 := hb.cell 2
  have c3 : w.cell? ⟨b, 3, none⟩ = some a3 := hb.cell 3
  have c4 : w.cell? ⟨b, 4, none⟩ = some a4 := hb.cell 4
  simp [results, Tryz.results57, go_sem, ht, h3, c0, c1, c2, c3, c4]
def OpenPost (e1 : Addr) (w : World) (r : Option (List HdrV × Req4)) (e : Ending) (w' : World) : Prop :=
  Below w.heap.size w w' ∧ ((r = none ∧ e = .returned (.tuple #[.agg #[.string ⟨#[]⟩, .string ⟨#[]⟩, .string ⟨#[]⟩, .string ⟨#[]⟩, .slice none 0 0], errH e1])) ∨
    ∃ rest s, r = some (rest, s) ∧ ∃ A c, e = .returned (.tuple #[.agg #[.string s.m, .string s.s, .string s.a, .string s.p, .slice A rest.length c], .nilIface]) ∧ Hw w' w.heap.size (.slice A rest.length c) rest)
theorem below_box {w w0 w' : World} {g : Nat} (hb : Below w.heap.size w w0) (hg : w0.grownBy w' (some g)) (h : w.heap.size ≤ g) : Below w.heap.size w w' :=
  hb.grown hg hb.size (fun j e => by injection e with e; omega)
/-- While the rules of a request are laid. -/
structure OpF (w : World) (rs : List (RuleF Req4 × Value)) (k : Nat) (W : World) : Prop where
  bel : Below w.heap.size w W
  req : Blk W (w.heap.size + 1) 115 (reqCells req0)
  res : Blk W w.heap.size 115 (reqCells req0)
  b1 : Blk W (w.heap.size + 1 + 1 + 1) 165 #[.pointer (some ⟨w.heap.size + 1, 0, none⟩)]
  rm : RM W (w.heap.size + 1 + 1) k rs
theorem OpF.start (w : World) : OpF w [] 0 ((((w.alloc (.cells (reqCells req0) 115)).alloc (.cells (reqCells req0) 115)).alloc (.map #[] 0)).alloc (.cells #[.pointer (some ⟨w.heap.size + 1, 0, none⟩)] 165)) := by
  have s1 : (w.alloc (.cells (reqCells req0) 115)).heap.size = w.heap.size + 1 := by simp
  have s2 : ((w.alloc (.cells (reqCells req0) 115)).alloc (.cells (reqCells req0) 115)).heap.size = w.heap.size + 1 + 1 := by simp
  have s3 : (((w.alloc (.cells (reqCells req0) 115)).alloc (.cells (reqCells req0) 115)).alloc (.map #[] 0)).heap.size = w.heap.size + 1 + 1 + 1 := by simp
  refine ⟨((((Below.refl _ _).alloc (Nat.le_refl _) _).alloc (by rw [s1]; omega) _).alloc (by rw [s2]; omega) _).alloc (by rw [s3]; omega) _, ?_, ?_, ?_, ?_⟩
  · have := ((Blk.new (w.alloc (.cells (reqCells req0) 115)) 115 (reqCells req0)).alloc (.map #[] 0)).alloc (.cells #[.pointer (some ⟨w.heap.size + 1, 0, none⟩)] 165)
    rw [s1] at this; exact this
  · exact (((Blk.new w 115 (reqCells req0)).alloc _).alloc _).alloc _
  · have := Blk.new (((w.alloc (.cells (reqCells req0) 115)).alloc (.cells (reqCells req0) 115)).alloc (.map #[] 0)) 165 #[.pointer (some ⟨w.heap.size + 1, 0, none⟩)]
    rw [s3] at this; exact this
  · have := (World.ownsMap_made ((w.alloc (.cells (reqCells req0) 115)).alloc (.cells (reqCells req0) 115)) Tryz.prog 9 R6).alloc (.cells #[.pointer (some ⟨w.heap.size + 1, 0, none⟩)] 165)
    rw [s2] at this
    exact ⟨_, this, RD_nil⟩
theorem OpF.laid {w W W' : World} {rs rs' : List (RuleF Req4 × Value)} {k k' : Nat} (h : OpF w rs k W) (hg : W.grownBy W' (some (w.heap.size + 1 + 1))) (hm : RM W' (w.heap.size + 1 + 1) k' rs') : OpF w rs' k' W' :=
  ⟨h.bel.grown hg h.bel.size (fun j e => by injection e with e; omega), h.req.grown hg (fun e => by injection e with e; omega), h.res.grown hg (fun e => by injection e with e; omega), h.b1.grown hg (fun e => by injection e with e; omega), hm⟩
theorem OpF.alloc {w W : World} {rs : List (RuleF Req4 × Value)} {k : Nat} (h : OpF w rs k W) (o : Obj) : OpF w rs k (W.alloc o) :=
  ⟨h.bel.alloc h.bel.size _, h.req.alloc _, h.res.alloc _, h.b1.alloc _, h.rm.kept (World.grownBy_alloc W o none) (by simp)⟩
def rM (b1 : Nat) : RuleF Req4 × Value := (takeM, .func (.func 89) #[] #[.pointer (some ⟨b1, 0, none⟩)])
def rS (b2 : Nat) : RuleF Req4 × Value := (takeS, .func (.func 89) #[] #[.pointer (some ⟨b2, 0, none⟩)])
def rP (g : Nat) : RuleF Req4 × Value := (takeP, .func (.func 91) #[] #[.pointer (some ⟨g, 0, none⟩)])
def rA (g : Nat) : RuleF Req4 × Value := (takeA, .func (.func 93) #[] #[.pointer (some ⟨g, 0, none⟩)])
set_option maxHeartbeats 4000000 in
set_option maxRecDepth 100000 in
theorem open_any (A : Option Addr) (n c : Nat) (l : List HdrV) (w : World) {e1 e2 e3 : Addr} (he : EnvH w e1 e2 e3) (hn : n ≤ 100000) (hnc : n ≤ c) (hr : Hr w A n l) (hz : Szs l) :
    Calls Tryz.prog 57 #[.slice A n c] w (OpenPost e1 w (openS rules4 l req0)) := by
  have HE := Lib.hid he
  have HR := Lib.hid hr
  have HZ := Lib.hid hz
  have HN := Lib.hid (And.intro hn hnc)
  clear he hr hz hn hnc
  have hmm := @run_mkMap Tryz.prog
  go_enter Tryz.func57, Tryz.ntmps57
  go_wp2_with fail
  refine (some_any _ _).mono ?_
  rintro e wx ⟨rfl, rfl⟩
  have HO1 := Lib.hid (OpF.start w)
  simp only [reqCells, req0] at HO1
  generalize ((((w.alloc _).alloc _).alloc _).alloc _) = W1 at HO1 ⊢
  go_wp2_with (refine wpList_lay_rule _ rfl (.tmp 10) (.const (.string ⟨#[58, 109, 101, 116, 104, 111, 100]⟩)) (.tmp 14) rfl (w.heap.size + 1 + 1) 0 [] rfl HO1.out.rm (by omega) (rM (w.heap.size + 1 + 1 + 1)) ⟨#[58, 109, 101, 116, 104, 111, 100]⟩ (by decide) rfl rfl rfl rfl ?_; intro w1 hm1 hg1; have HO2 := Lib.hid (HO1.out.laid hg1 hm1); clear hm1 hg1)
  refine (some_any _ _).mono ?_
  rintro e wx ⟨rfl, rfl⟩
  have HO3 := Lib.hid (HO2.out.alloc (.cells #[.pointer (some ⟨w.heap.size + 1, 1, none⟩)] 165))
  have HB2 := Lib.hid (Blk.new w1 165 #[.pointer (some ⟨w.heap.size + 1, 1, none⟩)])
  have hz2 : w.heap.size + 1 + 1 + 1 < w1.heap.size := HO2.out.b1.lt
  obtain ⟨b2, hb2⟩ : ∃ b, w1.heap.size = b := ⟨_, rfl⟩
  rw [hb2] at HB2 hz2 ⊢
  clear hb2 HO1 HO2
  generalize w1.alloc (.cells #[.pointer (some ⟨w.heap.size + 1, 1, none⟩)] 165) = W2 at HO3 HB2 ⊢
  have nb2 : some b2 ≠ some (w.heap.size + 1 + 1) := fun e => by injection e with e; omega
  have NB2 := Lib.hid (And.intro hz2 nb2)
  clear hz2 nb2
  go_wp2_with (first
    | (refine wpList_lay_rule _ rfl (.tmp 10) (.const (.string ⟨#[58, 115, 99, 104, 101, 109, 101]⟩)) (.tmp 18) rfl (w.heap.size + 1 + 1) 1 [rM (w.heap.size + 1 + 1 + 1)] rfl HO3.out.rm (by omega) (rS b2) ⟨#[58, 115, 99, 104, 101, 109, 101]⟩ (by decide) rfl rfl rfl rfl ?_; intro w3 hm3 hg3; have HO4 := Lib.hid (And.intro (HO3.out.laid hg3 hm3) (HB2.out.grown hg3 NB2.out.2)); clear hm3 hg3)
    | (refine wpList_lay_rule _ rfl (.tmp 10) (.const (.string ⟨#[58, 112, 97, 116, 104]⟩)) (.tmp 20) rfl (w.heap.size + 1 + 1) 2 _ rfl HO4.out.1.rm (by omega) (rP (w.heap.size + 1)) ⟨#[58, 112, 97, 116, 104]⟩ (by decide) rfl rfl rfl rfl ?_; intro w4 hm4 hg4; have HO5 := Lib.hid (And.intro (HO4.out.1.laid hg4 hm4) (HO4.out.2.grown hg4 NB2.out.2)); clear hm4 hg4)
    | (refine wpList_lay_rule _ rfl (.tmp 10) (.const (.string ⟨#[58, 97, 117, 116, 104, 111, 114, 105, 116, 121]⟩)) (.tmp 22) rfl (w.heap.size + 1 + 1) 3 _ rfl HO5.out.1.rm (by omega) (rA (w.heap.size + 1)) ⟨#[58, 97, 117, 116, 104, 111, 114, 105, 116, 121]⟩ (by decide) rfl rfl rfl rfl ?_; intro w5 hm5 hg5; have HO6 := Lib.hid (And.intro (HO5.out.1.laid hg5 hm5) (HO5.out.2.grown hg5 NB2.out.2)); clear hm5 hg5))
  have HSp := Lib.hid (split_any (w.heap.size + 1) 115 reqCells (rs4 (w.heap.size + 1) (w.heap.size + 1 + 1 + 1) b2) req0 A n c l (w.heap.size + 1 + 1) 4 w5 (HE.out.below HO6.out.1.bel HE.out.room)
    ⟨HO6.out.1.rm.lt, HO6.out.1.req.lt, by omega, by have := HE.out.room; omega, fun hp ad e => by have := HR.out.alt hp ad e; omega⟩ HN.out.1 HN.out.2 (HR.out.below HO6.out.1.bel) HZ.out HO6.out.1.req HO6.out.1.rm (rs4_fn _ _ _ w5 HO6.out.1.b1 HO6.out.2 (by omega) (by have := NB2.out.1; omega)) (rs4_nodup _ _ _))
  refine HSp.out.mono ?_
  rintro e w6 ⟨g6, h6⟩
  rw [rs4_rules] at h6
  have hres := HO6.out.1.res.grown g6 (fun e => by injection e with e; omega)
  have HB6 := Lib.hid (below_box HO6.out.1.bel g6 (by omega))
  have HRes := Lib.hid hres
  clear g6 hres HSp
  rcases h6 with ⟨h6, A6, n6, c6, rfl⟩ | ⟨rest, s, h6, A6, c6, rfl, hw6, hs6⟩
  · have H6 := Lib.hid h6
    clear h6
    have hce := (HE.out.below HB6.out HE.out.room).head
    have r0 := HRes.out.cell 0
    have r1 := HRes.out.cell 1
    have r2 := HRes.out.cell 2
    have r3 := HRes.out.cell 3
    have r4 := HRes.out.cell 4
    have q0 := HRes.out.frozen 0
    have q1 := HRes.out.frozen 1
    have q2 := HRes.out.frozen 2
    have q3 := HRes.out.frozen 3
    have q4 := HRes.out.frozen 4
    simp only [reqCells, req0] at r0 r1 r2 r3 r4
    have hn0 : w.heap.size ≠ 0 := by have := HE.out.room; omega
    have hn1 : ¬ (0 = w.heap.size) := fun e => hn0 e.symm
    go_wp2
    go_region
    all_goals
      go_wp2
      have hb0 := (((((HRes.out.put 0 (.string ⟨#[]⟩)).put 1 (.string ⟨#[]⟩)).put 2 (.string ⟨#[]⟩)).put 3 (.string ⟨#[]⟩)).put 4 (.slice none 0 0)).drewN 1
      refine bodyPost_ret (res9 _ _ w.heap.size #[.string ⟨#[]⟩, .string ⟨#[]⟩, .string ⟨#[]⟩, .string ⟨#[]⟩, .slice none 0 0] (errH e1) rfl rfl rfl hb0) rfl ⟨below_drewN (((((HB6.out.setCell (Nat.le_refl _) _).setCell (Nat.le_refl _) _).setCell (Nat.le_refl _) _).setCell (Nat.le_refl _) _).setCell (Nat.le_refl _) _) 1, .inl ⟨H6.out, rfl⟩⟩
  · have H6 := Lib.hid h6
    have HW6 := Lib.hid hw6
    have HS6 := Lib.hid hs6
    clear h6 hw6 hs6
    have r0 := HRes.out.cell 0
    have r1 := HRes.out.cell 1
    have r2 := HRes.out.cell 2
    have r3 := HRes.out.cell 3
    have r4 := HRes.out.cell 4
    have q0 := HRes.out.frozen 0
    have q1 := HRes.out.frozen 1
    have q2 := HRes.out.frozen 2
    have q3 := HRes.out.frozen 3
    have q4 := HRes.out.frozen 4
    have s0 := HS6.out.cell 0
    have s1 := HS6.out.cell 1
    have s2 := HS6.out.cell 2
    have s3 := HS6.out.cell 3
    have s4 := HS6.out.cell 4
    have z4 := HS6.out.frozen 4
    simp only [reqCells, req0] at r0 r1 r2 r3 r4 s0 s1 s2 s3 s4
    go_wp2
    have hb0 : Blk ((((((w6.setCell ⟨w.heap.size + 1, 4, none⟩ (.slice A6 rest.length c6)).setCell ⟨w.heap.size, 0, none⟩ (.string s.m)).setCell ⟨w.heap.size, 1, none⟩ (.string s.s)).setCell ⟨w.heap.size, 2, none⟩ (.string s.a)).setCell ⟨w.heap.size, 3, none⟩ (.string s.p)).setCell ⟨w.heap.size, 4, none⟩ (.slice A6 rest.length c6)) w.heap.size 115 #[.string s.m, .string s.s, .string s.a, .string s.p, .slice A6 rest.length c6] :=
      (((((HRes.out.far (show w.heap.size ≠ w.heap.size + 1 by omega) _).put 0 _).put 1 _).put 2 _).put 3 _).put 4 _
    have hbel : Below w.heap.size w ((((((w6.setCell ⟨w.heap.size + 1, 4, none⟩ (.slice A6 rest.length c6)).setCell ⟨w.heap.size, 0, none⟩ (.string s.m)).setCell ⟨w.heap.size, 1, none⟩ (.string s.s)).setCell ⟨w.heap.size, 2, none⟩ (.string s.a)).setCell ⟨w.heap.size, 3, none⟩ (.string s.p)).setCell ⟨w.heap.size, 4, none⟩ (.slice A6 rest.length c6)) :=
      (((((HB6.out.setCell (Nat.le_succ _) _).setCell (Nat.le_refl _) _).setCell (Nat.le_refl _) _).setCell (Nat.le_refl _) _).setCell (Nat.le_refl _) _).setCell (Nat.le_refl _) _
    refine bodyPost_ret (res9 _ _ w.heap.size _ _ rfl rfl rfl hb0) rfl ⟨hbel, .inr ⟨rest, s, H6.out, A6, c6, rfl, ?_⟩⟩
    have h5 := HO6.out.1.bel.size
    have hlt : w.heap.size + 1 < w5.heap.size := HO6.out.1.req.lt
    have hk : ∀ (W : World) (p : Addr) (v : Value), p.block < w5.heap.size → Hw W w5.heap.size (.slice A6 rest.length c6) rest → Hw (W.setCell p v) w5.heap.size (.slice A6 rest.length c6) rest := fun W p v hp h => h.grown (row := some p.block) (by
      refine ⟨rfl, rfl, rfl, by simp [World.setCell], fun i _ hne => Below.heap_setCell W p v i (fun e => hne (by rw [e]))⟩) (by
      rcases ho : (Value.slice A6 rest.length c6).ownBlock with _ | b
      · exact .inl rfl
      · exact .inr (fun e => by have := (h.lt b ho).1; injection e with e; omega))
    exact (hk _ _ _ (by show w.heap.size < _; omega) (hk _ _ _ (by show w.heap.size < _; omega) (hk _ _ _ (by show w.heap.size < _; omega) (hk _ _ _ (by show w.heap.size < _; omega) (hk _ _ _ (by show w.heap.size < _; omega) (hk _ _ _ (by show w.heap.size + 1 < _; omega) HW6.out)))))).base h5
end Go.Proofs.YtkpppjhbmnfmkaaGreatDoor.H6
end

section
namespace Go.Proofs.YtkpppjhbmnfmkaaGreatDoor
open Go.RowKit Go.Own Go.Own.Im Go.Own.Cx Go.Own.Hd
theorem hcells_flat (l : List HdrV) : H6.hcells l = Cm.flat hdrC l := by
  have e : (H6.hcell : HdrV → List Value) = fun x => (hdrC x).toList := by funext x; rfl
  simp only [H6.hcells, Cm.flat, e]
theorem headOk_of {A : Option Addr} {c : Nat} {hs : List HdrV} {W : World} {e1 e2 e3 : Addr} (he : H6.EnvH W e1 e2 e3) (hn : hs.length ≤ 100) (hc : hs.length ≤ c) (hr : Cm.RS hdrC 3 W W.heap.size A hs.length hs) (hz : H6.Szs hs) (ho : (openS rules4 hs req0).isSome = true) : HeadOk A hs.length c W := by
  have h1 : H6.Hr W A hs.length hs := ⟨rfl, fun j u hu => by
    rw [hcells_flat] at hu
    exact hr.flatc (fun _ => rfl) j u hu⟩
  refine (H6.open_any A hs.length c hs W he (by omega) hc h1 hz).mono ?_
  rintro e W' ⟨hb, h2 | ⟨rest, s, _, A', c', h3, _⟩⟩
  · rw [h2.1] at ho; cases ho
  · exact ⟨_, _, _, _, _, h3, ⟨_, _, _, rfl⟩, hb⟩
end Go.Proofs.YtkpppjhbmnfmkaaGreatDoor
end
