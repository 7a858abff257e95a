/-
  Contracts: link.FindMessage, FindEnum (a copy of what is found), FieldOf, FindMethod.
-/
import Derived.Test.YtcjcpkjdhagofaaMem
import Derived.Laws.EntriesVeiled
namespace Go.Proofs.Ytcjcpkjdhagofaa
open Go.RowKit Go.Own Go.Own.Cm Go.Shelf
attribute [local go_sem] Oper.semAt_some
theorem find_at {α : Type} {p : α → Bool} : ∀ {l : List α} {k : Nat} {x : α}, l[k]? = some x → (l.take k).any p = false → p x = true → l.find? p = some x
  | [], k, x, h, _, _ => by simp at h
  | y :: l, 0, x, h, _, hp => by
    simp at h; subst h
    simp [List.find?, hp]
  | y :: l, k + 1, x, h, ha, hp => by
    rw [List.take_succ_cons, List.any_cons, Bool.or_eq_false_iff] at ha
    rw [List.find?_cons, ha.1]
    exact find_at (by simpa using h) ha.2 hp
theorem find_no {α : Type} {p : α → Bool} {l : List α} (h : l.any p = false) : l.find? p = none := by
  rw [List.find?_eq_none]
  intro x hx
  rw [List.any_eq_false] at h
  exact h x hx
theorem any_next {α : Type} (l : List α) (p : α → Bool) (k : Nat) (x : α) (hx : l[k]? = some x) (h : (l.take k).any p = false) (hp : p x = false) : (l.take (k + 1)).any p = false := by
  obtain ⟨hk, he⟩ := List.getElem?_eq_some_iff.1 hx
  rw [List.take_succ_eq_append_getElem hk, List.any_append, h, he]
  simp [hp]
def AskP (b : Bool) (w : World) (e : Ending) (w' : World) : Prop := e = .returned (.bool b) ∧ Below w.heap.size w w'
/-- What is found, with its elements copied into new memory. -/
def FmPost (s : SchV) (nm : ByteArray) (w : World) (e : Ending) (w' : World) : Prop :=
  Below w.heap.size w w' ∧ ((msgAt s nm = none ∧ e = .returned (.tuple #[.agg #[.string empT, .slice none 0 0], .bool false])) ∨
    ∃ m A c, msgAt s nm = some m ∧ m ∈ s.ms ∧ e = .returned (.tuple #[.agg #[.string m.nm, .slice A m.fn c], .bool true]) ∧ RS FldV.cells 10 w' w'.heap.size A m.fn m.fs ∧ ∀ ad, A = some ad → w.heap.size ≤ ad.block)
theorem results_fm (tmps : Array Value) (w : World) (g : Nat) (a b v : Value) (ht : tmps[4]? = some (.pointer (some ⟨g, 0, none⟩))) (h5 : tmps[5]? = some v) (hb : Blk w g 45 #[a, b]) :
    (results Try.f34 tmps).run Try.prog w = .ok (.tuple #[.agg #[a, b], v]) w := by
  have c0 : w.cell? ⟨g, 0, none⟩ = some a := hb.cell 0
  have c1 : w.cell? ⟨g, 1, none⟩ = some b := hb.cell 1
  simp [results, Try.results34, go_sem, ht, h5, c0, c1]
set_option maxHeartbeats 2000000 in
set_option maxRecDepth 100000 in
theorem findMessage_any (s : SchV) (nm : ByteArray) (B : Nat) (w : World) (hr : SchR w B s) (hz : SchZ s) (hB : B ≤ w.heap.size) :
    Calls Try.prog 34 #[.agg s.cells, .string nm] w (FmPost s nm w) := by
  have HR := Lib.hid hr
  have HM := Lib.hid hr.m.1
  have HZ := Lib.hid hz
  have HBs := Lib.hid hB
  have hn : s.mn ≤ 20 := hz.m
  clear hr hz hB
  obtain ⟨mA, mn, mc, ms, eA, en, ec, es, sA, sn, sc, ss⟩ := s
  simp only [SchV.cells] at hn HM ⊢
  have HW : ∃ w0, w0 = (w.alloc (.cells #[.slice mA mn mc, .slice eA en ec, .slice sA sn sc] 26)).alloc (.cells #[.string ⟨#[]⟩, .slice none 0 0] 45) ∧ Below w.heap.size w w0 ∧ w0.heap.size = w.heap.size + 2 ∧ Blk w0 (w.heap.size + 1) 45 #[.string ⟨#[]⟩, .slice none 0 0] :=
    ⟨_, rfl, ((Below.refl _ _).alloc (Nat.le_refl _) _).alloc (by simp) _, by simp, by simpa using Blk.new (w.alloc (.cells #[.slice mA mn mc, .slice eA en ec, .slice sA sn sc] 26)) 45 #[.string ⟨#[]⟩, .slice none 0 0]⟩
  obtain ⟨w0, e0, W1, W2, W3⟩ := HW
  have HB0 := Lib.hid W1
  have HS0 := Lib.hid W2
  have HT0 := Lib.hid W3
  have HE0 := Lib.hid e0
  clear W1 W2 W3 e0
  go_enter Try.func34, Try.ntmps34
  go_wp2
  rw [← HE0.out]
  go_loopw [11] (fun i wr => ∃ k : Nat, k ≤ mn ∧ i = .int .i64 (k : Int) ∧ Hid (Below w0.heap.size w0 wr ∧ (ms.take k).any (fun m => sameT m.nm nm) = false)) (fun i _ => mn - (intOf i).toNat)
  case atStart => exact ⟨0, by omega, rfl, Lib.hid ⟨Below.refl _ _, by simp⟩⟩
  case round =>
    obtain ⟨k, hk, rfl, hh⟩ := hrel
    have HBw := Lib.hid (HB0.out.trans (hh.out.1.mono HB0.out.size))
    have HRw := Lib.hid (HR.out.below (HBw.out.mono HBs.out))
    have l1 : w.heap.size + 1 < wr.heap.size := (HT0.out.below hh.out.1 HT0.out.lt).lt
    by_cases hlt : k < mn
    · obtain ⟨ad, x, e, hx, a0, a1⟩ := HRw.out.m.atM hlt
      have e : mA = some ad := e
      subst e
      have HX := Lib.hid (show ms[k]? = some x from hx)
      have HFx := Lib.hid (HRw.out.f x (List.mem_of_getElem? hx))
      have HZx := Lib.hid (HZ.out.f x (List.mem_of_getElem? hx))
      clear hx
      obtain ⟨xn, fA, fn, fc, fs⟩ := x
      simp only at a0 a1 HFx HZx
      have i0 : (0 : Int) ≤ (k : Int) := by omega
      have i1 : (k : Int) < (mn : Int) := by omega
      obtain ⟨b, hb⟩ : ∃ b, (xn.toList == nm.toList) = b := ⟨_, rfl⟩
      have HP := Lib.hid (show sameT xn nm = b from hb)
      rcases b with _ | _
      · have HN := Lib.hid (any_next ms (fun m => sameT m.nm nm) k _ HX.out hh.out.2 HP.out)
        go_wp2
        exact ⟨⟨k + 1, hlt, by go_num, Lib.hid ⟨hh.out.1.alloc hh.out.1.size _, HN.out⟩⟩, by simp [intOf]; omega⟩
      · have HFind := Lib.hid (show msgAt ⟨some ad, mn, mc, ms, eA, en, ec, es, sA, sn, sc, ss⟩ nm = some ⟨xn, fA, fn, fc, fs⟩ from find_at HX.out hh.out.2 HP.out)
        have HT1 := Lib.hid (HT0.out.below hh.out.1 HT0.out.lt)
        go_wp2_with (at_builtin
                     refine wpList_app_e elFld _ rfl (.const (.slice none 0 0)) (.tmp 20) rfl (wr.heap.size + 1) (.slice none 0 0) [] rfl (Ew.nil _ _ _ _ _) B fA fn fc fs rfl (HFx.out.keep (by simp) (fun a _ _ h => Below.heap_alloc _ _ _ h)) (by have := HZx.out; simp; omega) (by simp) ?_
                     intro A4 c4 w4 hown hg hv
                     rw [List.length_nil, Nat.zero_add] at hown hv
                     have HO := Lib.hid hown
                     have b7 := (Blk.new wr 45 #[.string xn, .slice fA fn fc]).grown hg (by simp [Value.ownBlock])
                     have b4 := (HT1.out.alloc (.cells #[.string xn, .slice fA fn fc] 45)).grown hg (by simp [Value.ownBlock])
                     have c70 := b7.cell 0
                     have c71 := b7.cell 1
                     have c40 := b4.cell 0
                     have c41 := b4.cell 1
                     have f70 := b7.frozen 0
                     have f71 := b7.frozen 1
                     have f40 := b4.frozen 0
                     have f41 := b4.frozen 1
                     simp only [List.getElem?_toArray, List.getElem?_cons_zero, List.getElem?_cons_succ] at c70 c71 c40 c41
                     have HG := Lib.hid (((HBw.out.alloc HBw.out.size (.cells #[.string xn, .slice fA fn fc] 45)).grown hg (by have := HBw.out.size; simp; omega) (fun k e => by simp [Value.ownBlock] at e)))
                     have hs4 : wr.heap.size < w4.heap.size := b7.lt
                     have HB4 := Lib.hid b4
                     clear hown hg hv b7 b4)
        have hO := HO.out
        rw [List.nil_append] at hO
        have hA := hO.from
        have hB0 := HBw.out.size
        refine bodyPost_ret (results_fm _ _ (w.heap.size + 1) _ _ _ rfl rfl (((HB4.out.far (by simp; omega) _).put 0 _).put 1 _)) rfl ⟨((HG.out.setCell (by simpa using hB0) _).setCell (by simp) _).setCell (by simp) _, .inr ⟨_, A4, c4, HFind.out, List.mem_of_getElem? HX.out, rfl, ?_, fun ad e => by have := hA ad e; omega⟩⟩
        exact (((((hO.rs (fun _ => rfl) (by omega)).setCell (fun ad e => by have := hA ad e; simp; omega) _).setCell (fun ad e => by have := hA ad e; simp; omega) _).setCell (fun ad e => by have := hA ad e; simp; omega) _)).more (by simp [World.setCell])
    · obtain rfl : k = mn := by omega
      have HN := Lib.hid hh.out.2
      rw [List.take_of_length_le (by rw [HM.out]; exact Nat.le_refl _)] at HN
      have HT1 := Lib.hid (HT0.out.below hh.out.1 HT0.out.lt)
      have c40 := HT1.out.cell 0
      have c41 := HT1.out.cell 1
      have f40 := HT1.out.frozen 0
      have f41 := HT1.out.frozen 1
      simp only [List.getElem?_toArray, List.getElem?_cons_zero, List.getElem?_cons_succ] at c40 c41
      go_wp2
      refine bodyPost_ret (results_fm _ _ (w.heap.size + 1) _ _ _ rfl rfl ((HT1.out.put 0 _).put 1 _)) rfl ?_
      exact ⟨(HBw.out.setCell (by simp) _).setCell (by simp) _, .inl ⟨find_no HN.out, rfl⟩⟩
/-- What is found, with its elements copied into new memory. -/
def FePost (s : SchV) (nm : ByteArray) (w : World) (e : Ending) (w' : World) : Prop :=
  Below w.heap.size w w' ∧ ((enmAt s nm = none ∧ e = .returned (.tuple #[.agg #[.string empT, .slice none 0 0], .bool false])) ∨
    ∃ m A c, enmAt s nm = some m ∧ m ∈ s.es ∧ e = .returned (.tuple #[.agg #[.string m.nm, .slice A m.vn c], .bool true]) ∧ RS EvV.cells 2 w' w'.heap.size A m.vn m.vs ∧ ∀ ad, A = some ad → w.heap.size ≤ ad.block)
theorem results_fe (tmps : Array Value) (w : World) (g : Nat) (a b v : Value) (ht : tmps[4]? = some (.pointer (some ⟨g, 0, none⟩))) (h5 : tmps[5]? = some v) (hb : Blk w g 54 #[a, b]) :
    (results Try.f40 tmps).run Try.prog w = .ok (.tuple #[.agg #[a, b], v]) w := by
  have c0 : w.cell? ⟨g, 0, none⟩ = some a := hb.cell 0
  have c1 : w.cell? ⟨g, 1, none⟩ = some b := hb.cell 1
  simp [results, Try.results40, go_sem, ht, h5, c0, c1]
set_option maxHeartbeats 2000000 in
set_option maxRecDepth 100000 in
theorem findEnum_any (s : SchV) (nm : ByteArray) (B : Nat) (w : World) (hr : SchR w B s) (hz : SchZ s) (hB : B ≤ w.heap.size) :
    Calls Try.prog 40 #[.agg s.cells, .string nm] w (FePost s nm w) := by
  have HR := Lib.hid hr
  have HM := Lib.hid hr.e.1
  have HZ := Lib.hid hz
  have HBs := Lib.hid hB
  have hn : s.en ≤ 20 := hz.e
  clear hr hz hB
  obtain ⟨mA, mn, mc, ms, eA, en, ec, es, sA, sn, sc, ss⟩ := s
  simp only [SchV.cells] at hn HM ⊢
  have HW : ∃ w0, w0 = (w.alloc (.cells #[.slice mA mn mc, .slice eA en ec, .slice sA sn sc] 26)).alloc (.cells #[.string ⟨#[]⟩, .slice none 0 0] 54) ∧ Below w.heap.size w w0 ∧ w0.heap.size = w.heap.size + 2 ∧ Blk w0 (w.heap.size + 1) 54 #[.string ⟨#[]⟩, .slice none 0 0] :=
    ⟨_, rfl, ((Below.refl _ _).alloc (Nat.le_refl _) _).alloc (by simp) _, by simp, by simpa using Blk.new (w.alloc (.cells #[.slice mA mn mc, .slice eA en ec, .slice sA sn sc] 26)) 54 #[.string ⟨#[]⟩, .slice none 0 0]⟩
  obtain ⟨w0, e0, W1, W2, W3⟩ := HW
  have HB0 := Lib.hid W1
  have HS0 := Lib.hid W2
  have HT0 := Lib.hid W3
  have HE0 := Lib.hid e0
  clear W1 W2 W3 e0
  go_enter Try.func40, Try.ntmps40
  go_wp2
  rw [← HE0.out]
  go_loopw [11] (fun i wr => ∃ k : Nat, k ≤ en ∧ i = .int .i64 (k : Int) ∧ Hid (Below w0.heap.size w0 wr ∧ (es.take k).any (fun m => sameT m.nm nm) = false)) (fun i _ => en - (intOf i).toNat)
  case atStart => exact ⟨0, by omega, rfl, Lib.hid ⟨Below.refl _ _, by simp⟩⟩
  case round =>
    obtain ⟨k, hk, rfl, hh⟩ := hrel
    have HBw := Lib.hid (HB0.out.trans (hh.out.1.mono HB0.out.size))
    have HRw := Lib.hid (HR.out.below (HBw.out.mono HBs.out))
    have l1 : w.heap.size + 1 < wr.heap.size := (HT0.out.below hh.out.1 HT0.out.lt).lt
    by_cases hlt : k < en
    · obtain ⟨ad, x, e, hx, a0, a1⟩ := HRw.out.e.atE hlt
      have e : eA = some ad := e
      subst e
      have HX := Lib.hid (show es[k]? = some x from hx)
      have HFx := Lib.hid (HRw.out.v x (List.mem_of_getElem? hx))
      have HZx := Lib.hid (HZ.out.v x (List.mem_of_getElem? hx))
      clear hx
      obtain ⟨xn, fA, fn, fc, fs⟩ := x
      simp only at a0 a1 HFx HZx
      have i0 : (0 : Int) ≤ (k : Int) := by omega
      have i1 : (k : Int) < (en : Int) := by omega
      obtain ⟨b, hb⟩ : ∃ b, (xn.toList == nm.toList) = b := ⟨_, rfl⟩
      have HP := Lib.hid (show sameT xn nm = b from hb)
      rcases b with _ | _
      · have HN := Lib.hid (any_next es (fun m => sameT m.nm nm) k _ HX.out hh.out.2 HP.out)
        go_wp2
        exact ⟨⟨k + 1, hlt, by go_num, Lib.hid ⟨hh.out.1.alloc hh.out.1.size _, HN.out⟩⟩, by simp [intOf]; omega⟩
      · have HFind := Lib.hid (show enmAt ⟨mA, mn, mc, ms, some ad, en, ec, es, sA, sn, sc, ss⟩ nm = some ⟨xn, fA, fn, fc, fs⟩ from find_at HX.out hh.out.2 HP.out)
        have HT1 := Lib.hid (HT0.out.below hh.out.1 HT0.out.lt)
        go_wp2_with (at_builtin
                     refine wpList_app_e elEv _ rfl (.const (.slice none 0 0)) (.tmp 20) rfl (wr.heap.size + 1) (.slice none 0 0) [] rfl (Ew.nil _ _ _ _ _) B fA fn fc fs rfl (HFx.out.keep (by simp) (fun a _ _ h => Below.heap_alloc _ _ _ h)) (by have := HZx.out; simp; omega) (by simp) ?_
                     intro A4 c4 w4 hown hg hv
                     rw [List.length_nil, Nat.zero_add] at hown hv
                     have HO := Lib.hid hown
                     have b7 := (Blk.new wr 54 #[.string xn, .slice fA fn fc]).grown hg (by simp [Value.ownBlock])
                     have b4 := (HT1.out.alloc (.cells #[.string xn, .slice fA fn fc] 54)).grown hg (by simp [Value.ownBlock])
                     have c70 := b7.cell 0
                     have c71 := b7.cell 1
                     have c40 := b4.cell 0
                     have c41 := b4.cell 1
                     have f70 := b7.frozen 0
                     have f71 := b7.frozen 1
                     have f40 := b4.frozen 0
                     have f41 := b4.frozen 1
                     simp only [List.getElem?_toArray, List.getElem?_cons_zero, List.getElem?_cons_succ] at c70 c71 c40 c41
                     have HG := Lib.hid (((HBw.out.alloc HBw.out.size (.cells #[.string xn, .slice fA fn fc] 54)).grown hg (by have := HBw.out.size; simp; omega) (fun k e => by simp [Value.ownBlock] at e)))
                     have hs4 : wr.heap.size < w4.heap.size := b7.lt
                     have HB4 := Lib.hid b4
                     clear hown hg hv b7 b4)
        have hO := HO.out
        rw [List.nil_append] at hO
        have hA := hO.from
        have hB0 := HBw.out.size
        refine bodyPost_ret (results_fe _ _ (w.heap.size + 1) _ _ _ rfl rfl (((HB4.out.far (by simp; omega) _).put 0 _).put 1 _)) rfl ⟨((HG.out.setCell (by simpa using hB0) _).setCell (by simp) _).setCell (by simp) _, .inr ⟨_, A4, c4, HFind.out, List.mem_of_getElem? HX.out, rfl, ?_, fun ad e => by have := hA ad e; omega⟩⟩
        exact (((((hO.rs (fun _ => rfl) (by omega)).setCell (fun ad e => by have := hA ad e; simp; omega) _).setCell (fun ad e => by have := hA ad e; simp; omega) _).setCell (fun ad e => by have := hA ad e; simp; omega) _)).more (by simp [World.setCell])
    · obtain rfl : k = en := by omega
      have HN := Lib.hid hh.out.2
      rw [List.take_of_length_le (by rw [HM.out]; exact Nat.le_refl _)] at HN
      have HT1 := Lib.hid (HT0.out.below hh.out.1 HT0.out.lt)
      have c40 := HT1.out.cell 0
      have c41 := HT1.out.cell 1
      have f40 := HT1.out.frozen 0
      have f41 := HT1.out.frozen 1
      simp only [List.getElem?_toArray, List.getElem?_cons_zero, List.getElem?_cons_succ] at c40 c41
      go_wp2
      refine bodyPost_ret (results_fe _ _ (w.heap.size + 1) _ _ _ rfl rfl ((HT1.out.put 0 _).put 1 _)) rfl ?_
      exact ⟨(HBw.out.setCell (by simp) _).setCell (by simp) _, .inl ⟨find_no HN.out, rfl⟩⟩
/-- FieldOf's question. -/
theorem isNum_any (f : FldV) (gb : Nat) (z : Int) (w : World) (hb : Blk w gb 3 #[.int .i64 z]) : Calls Try.prog 47 #[.agg f.cells, .pointer (some ⟨gb, 0, none⟩)] w (AskP (f.num == z) w) := by
  obtain ⟨n1, n2, n3, n4, a, b, c, p, q, r⟩ := f
  have c0 : w.cell? ⟨gb, 0, none⟩ = some (.int .i64 z) := hb.cell 0
  have l0 := hb.lt
  clear hb
  simp only [FldV.cells]
  go_enter Try.func47, Try.ntmps47
  go_wp2
  go_ret
  exact ⟨rfl, (Below.refl _ _).alloc (Nat.le_refl _) _⟩
def IxPost (l : List FldV) (z : Int) (w : World) (e : Ending) (w' : World) : Prop :=
  Below w.heap.size w w' ∧ ∃ i : Int, e = .returned (.int .i64 i) ∧ ((i = -1 ∧ fldAt l z = none) ∨ ∃ k : Nat, i = (k : Int) ∧ k < l.length ∧ ∃ x, l[k]? = some x ∧ fldAt l z = some x)
set_option maxHeartbeats 2000000 in
set_option maxRecDepth 100000 in
theorem indexFunc_any (B : Nat) (A : Option Addr) (n c : Nat) (l : List FldV) (gb : Nat) (z : Int) (w : World) (hn : n ≤ 1000000) (hr : RS FldV.cells 10 w B A n l) (hb : Blk w gb 3 #[.int .i64 z]) (hB : B ≤ w.heap.size) :
    Calls Try.prog 55 #[.slice A n c, .func (.func 47) #[] #[.pointer (some ⟨gb, 0, none⟩)]] w (IxPost l z w) := by
  have HR := Lib.hid hr
  have HM := Lib.hid hr.1
  have HB := Lib.hid hb
  have HBs := Lib.hid hB
  have hE : ∀ args w, (callFunc 47 args).run Try.prog w = .ok (.enter 47 args) w := enters_of Try.func47 (by kernel_rfl) rfl
  clear hr hb hB
  go_enter Try.func55, Try.ntmps55
  go_wp2
  go_loopw [8] (fun i wr => ∃ k : Nat, k ≤ n ∧ i = .int .i64 (k : Int) ∧ Hid (Below w.heap.size w wr ∧ (l.take k).any (fun f => f.num == z) = false)) (fun i _ => n - (intOf i).toNat)
  case atStart => exact ⟨0, by omega, rfl, Lib.hid ⟨Below.refl _ _, by simp⟩⟩
  case round =>
    obtain ⟨k, hk, rfl, hh⟩ := hrel
    by_cases hlt : k < n
    · obtain ⟨ad, x, rfl, hx, a0, a1, a2, a3, a4, a5, a6, a7, a8, a9⟩ := (HR.out.below (hh.out.1.mono HBs.out)).atF hlt
      have HX := Lib.hid hx
      have HD := Lib.hid (isNum_any x gb z wr (HB.out.below hh.out.1 HB.out.lt))
      obtain ⟨b, hb⟩ : ∃ b, (x.num == z) = b := ⟨_, rfl⟩
      rw [hb] at HD
      have HP := Lib.hid hb
      obtain ⟨n1, n2, n3, n4, na, nb, nc, np, nq, nr⟩ := x
      simp only [FldV.cells] at a0 a1 a2 a3 a4 a5 a6 a7 a8 a9 HD HP
      have i0 : (0 : Int) ≤ (k : Int) := by omega
      have i1 : (k : Int) < (n : Int) := by omega
      clear hx hb
      rcases b with _ | _
      · have HN := Lib.hid (any_next l (fun f => f.num == z) k _ HX.out hh.out.2 HP.out)
        go_wp2_with (with_reducible refine HD.out.mono ?_
                     rintro e w2 ⟨rfl, g2⟩
                     have G2 := Lib.hid (hh.out.1.trans (g2.mono hh.out.1.size))
                     clear g2)
        exact ⟨⟨k + 1, hlt, by go_num, Lib.hid ⟨G2.out, HN.out⟩⟩, by simp [intOf]; omega⟩
      · go_wp2_with (with_reducible refine HD.out.mono ?_
                     rintro e w2 ⟨rfl, g2⟩
                     have G2 := Lib.hid (hh.out.1.trans (g2.mono hh.out.1.size))
                     clear g2)
        go_ret
        exact ⟨G2.out, _, rfl, .inr ⟨k, rfl, (List.getElem?_eq_some_iff.1 HX.out).1, _, HX.out, find_at HX.out hh.out.2 HP.out⟩⟩
    · obtain rfl : k = n := by omega
      have HN := Lib.hid hh.out.2
      rw [List.take_of_length_le (by rw [HM.out]; exact Nat.le_refl _)] at HN
      go_wp2
      go_ret
      exact ⟨hh.out.1, _, rfl, .inl ⟨rfl, find_no HN.out⟩⟩
end Go.Proofs.Ytcjcpkjdhagofaa
