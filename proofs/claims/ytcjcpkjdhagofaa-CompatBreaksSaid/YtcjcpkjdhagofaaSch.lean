/-
  Schemas as data; what hurts between two of them. No program.
-/
import Derived.Test.YtcjcpkjdhagofaaBase
namespace Go.Own.Cm
open Go Go.RowKit Go.Own
def sameT (a b : ByteArray) : Bool := a.toList == b.toList
structure FldV where
  nm : ByteArray
  js : ByteArray
  rf : ByteArray
  on : ByteArray
  num : Int
  kd : Int
  ky : Int
  rp : Bool
  op : Bool
  un : Bool
def FldV.cells (f : FldV) : Array Value := #[.string f.nm, .string f.js, .string f.rf, .string f.on, .int .i64 f.num, .int .i64 f.kd, .int .i64 f.ky, .bool f.rp, .bool f.op, .bool f.un]
structure MsgV where
  nm : ByteArray
  fA : Option Addr
  fn : Nat
  fc : Nat
  fs : List FldV
def MsgV.cells (m : MsgV) : Array Value := #[.string m.nm, .slice m.fA m.fn m.fc]
structure EvV where
  nm : ByteArray
  num : Int
def EvV.cells (v : EvV) : Array Value := #[.string v.nm, .int .i64 v.num]
structure EnmV where
  nm : ByteArray
  vA : Option Addr
  vn : Nat
  vc : Nat
  vs : List EvV
def EnmV.cells (m : EnmV) : Array Value := #[.string m.nm, .slice m.vA m.vn m.vc]
structure MthV where
  nm : ByteArray
  ins : ByteArray
  outs : ByteArray
  kd : Int
def MthV.cells (v : MthV) : Array Value := #[.string v.nm, .string v.ins, .string v.outs, .int .i64 v.kd]
structure SrvV where
  nm : ByteArray
  tA : Option Addr
  tn : Nat
  tc : Nat
  ts : List MthV
def SrvV.cells (m : SrvV) : Array Value := #[.string m.nm, .slice m.tA m.tn m.tc]
structure SchV where
  mA : Option Addr
  mn : Nat
  mc : Nat
  ms : List MsgV
  eA : Option Addr
  en : Nat
  ec : Nat
  es : List EnmV
  sA : Option Addr
  sn : Nat
  sc : Nat
  ss : List SrvV
def SchV.cells (s : SchV) : Array Value := #[.slice s.mA s.mn s.mc, .slice s.eA s.en s.ec, .slice s.sA s.sn s.sc]
structure BrkV where
  msg : ByteArray
  what : ByteArray
  num : Int
  why : Int
  js : Bool
def BrkV.cells (b : BrkV) : Array Value := #[.string b.msg, .string b.what, .int .i64 b.num, .int .i64 b.why, .bool b.js]
/-- A slice below block B reads as a list whose elements lie in k cells each. -/
def RS {α : Type} (f : α → Array Value) (k : Nat) (w : World) (B : Nat) (A : Option Addr) (n : Nat) (l : List α) : Prop :=
  l.length = n ∧ ∀ (j : Nat) (x : α), l[j]? = some x → ∃ ad, A = some ad ∧ ad.block < B ∧ ad.block < w.heap.size ∧ w.cell? (ad.add (j * k)) = (f x)[0]? ∧
    ∀ (i : Nat) (v : Value), 1 ≤ i → (f x)[i]? = some v → w.cell? ⟨(ad.add (j * k)).block, (ad.add (j * k)).off + i, none⟩ = some v
section
variable {α : Type} {f : α → Array Value} {k : Nat} {w w' : World} {B : Nat} {A : Option Addr} {n : Nat} {l : List α}
theorem cell_same {ad : Addr} (h : w'.heap[ad.block]? = w.heap[ad.block]?) : w'.cell? ad = w.cell? ad := by
  unfold World.cell?
  rw [h]
theorem RS.keep (h : RS f k w B A n l) (hs : w.heap.size ≤ w'.heap.size) (hk : ∀ ad, A = some ad → ad.block < B → ad.block < w.heap.size → w'.heap[ad.block]? = w.heap[ad.block]?) : RS f k w' B A n l :=
  ⟨h.1, fun j x hx => by
    obtain ⟨ad, e, hb, hw, h0, h1⟩ := h.2 j x hx
    have hh := hk ad e hb hw
    refine ⟨ad, e, hb, Nat.lt_of_lt_of_le hw hs, ?_, fun i v hi hv => ?_⟩
    · rw [← h0]; exact cell_same (by rw [add_block]; exact hh)
    · rw [← h1 i v hi hv]
      exact cell_same (by show w'.heap[(ad.add (j * k)).block]? = w.heap[(ad.add (j * k)).block]?; rw [add_block]; exact hh)⟩
theorem RS.below (h : RS f k w B A n l) (hb : Below B w w') : RS f k w' B A n l := h.keep hb.size fun _ _ h1 _ => hb.block _ h1
theorem RS.more {B' : Nat} (h : RS f k w B A n l) (hB : B ≤ B') : RS f k w B' A n l := ⟨h.1, fun j x hx => by
  obtain ⟨ad, e, hb, r⟩ := h.2 j x hx
  exact ⟨ad, e, Nat.lt_of_lt_of_le hb hB, r⟩⟩
theorem RS.at2 (h : RS f k w B A n l) {j : Nat} (hj : j < n) : ∃ ad x, A = some ad ∧ l[j]? = some x ∧ w.cell? (ad.add (j * k)) = (f x)[0]? ∧ ∀ (i : Nat) (v : Value), 1 ≤ i → (f x)[i]? = some v → w.cell? ⟨(ad.add (j * k)).block, (ad.add (j * k)).off + i, none⟩ = some v := by
  have hjl : j < l.length := by rw [h.1]; exact hj
  obtain ⟨ad, e, _, _, h0, h1⟩ := h.2 j l[j] (List.getElem?_eq_getElem hjl)
  exact ⟨ad, l[j], e, List.getElem?_eq_getElem hjl, h0, h1⟩
theorem RS.nil : RS f k w B none 0 [] := ⟨rfl, fun j x hx => by simp at hx⟩
end
theorem RS.atM {w : World} {B : Nat} {A : Option Addr} {n : Nat} {l : List MsgV} (h : RS MsgV.cells 2 w B A n l) {j : Nat} (hj : j < n) :
    ∃ ad x, A = some ad ∧ l[j]? = some x ∧ w.cell? (ad.add (j * 2)) = some (.string x.nm) ∧ w.cell? ⟨(ad.add (j * 2)).block, (ad.add (j * 2)).off + 1, none⟩ = some (.slice x.fA x.fn x.fc) := by
  obtain ⟨ad, x, e, hx, a0, a1⟩ := h.at2 hj
  exact ⟨ad, x, e, hx, a0, a1 1 _ (by omega) rfl⟩
theorem RS.atE {w : World} {B : Nat} {A : Option Addr} {n : Nat} {l : List EnmV} (h : RS EnmV.cells 2 w B A n l) {j : Nat} (hj : j < n) :
    ∃ ad x, A = some ad ∧ l[j]? = some x ∧ w.cell? (ad.add (j * 2)) = some (.string x.nm) ∧ w.cell? ⟨(ad.add (j * 2)).block, (ad.add (j * 2)).off + 1, none⟩ = some (.slice x.vA x.vn x.vc) := by
  obtain ⟨ad, x, e, hx, a0, a1⟩ := h.at2 hj
  exact ⟨ad, x, e, hx, a0, a1 1 _ (by omega) rfl⟩
theorem RS.atS {w : World} {B : Nat} {A : Option Addr} {n : Nat} {l : List SrvV} (h : RS SrvV.cells 2 w B A n l) {j : Nat} (hj : j < n) :
    ∃ ad x, A = some ad ∧ l[j]? = some x ∧ w.cell? (ad.add (j * 2)) = some (.string x.nm) ∧ w.cell? ⟨(ad.add (j * 2)).block, (ad.add (j * 2)).off + 1, none⟩ = some (.slice x.tA x.tn x.tc) := by
  obtain ⟨ad, x, e, hx, a0, a1⟩ := h.at2 hj
  exact ⟨ad, x, e, hx, a0, a1 1 _ (by omega) rfl⟩
theorem RS.atV {w : World} {B : Nat} {A : Option Addr} {n : Nat} {l : List EvV} (h : RS EvV.cells 2 w B A n l) {j : Nat} (hj : j < n) :
    ∃ ad x, A = some ad ∧ l[j]? = some x ∧ w.cell? (ad.add (j * 2)) = some (.string x.nm) ∧ w.cell? ⟨(ad.add (j * 2)).block, (ad.add (j * 2)).off + 1, none⟩ = some (.int .i64 x.num) := by
  obtain ⟨ad, x, e, hx, a0, a1⟩ := h.at2 hj
  exact ⟨ad, x, e, hx, a0, a1 1 _ (by omega) rfl⟩
theorem RS.atT {w : World} {B : Nat} {A : Option Addr} {n : Nat} {l : List MthV} (h : RS MthV.cells 4 w B A n l) {j : Nat} (hj : j < n) :
    ∃ ad x, A = some ad ∧ l[j]? = some x ∧ w.cell? (ad.add (j * 4)) = some (.string x.nm) ∧ w.cell? ⟨(ad.add (j * 4)).block, (ad.add (j * 4)).off + 1, none⟩ = some (.string x.ins) ∧ w.cell? ⟨(ad.add (j * 4)).block, (ad.add (j * 4)).off + 2, none⟩ = some (.string x.outs) ∧ w.cell? ⟨(ad.add (j * 4)).block, (ad.add (j * 4)).off + 3, none⟩ = some (.int .i64 x.kd) := by
  obtain ⟨ad, x, e, hx, a0, a1⟩ := h.at2 hj
  exact ⟨ad, x, e, hx, a0, a1 1 _ (by omega) rfl, a1 2 _ (by omega) rfl, a1 3 _ (by omega) rfl⟩
theorem RS.atF {w : World} {B : Nat} {A : Option Addr} {n : Nat} {l : List FldV} (h : RS FldV.cells 10 w B A n l) {j : Nat} (hj : j < n) :
    ∃ ad x, A = some ad ∧ l[j]? = some x ∧ w.cell? (ad.add (j * 10)) = some (.string x.nm) ∧ w.cell? ⟨(ad.add (j * 10)).block, (ad.add (j * 10)).off + 1, none⟩ = some (.string x.js) ∧ w.cell? ⟨(ad.add (j * 10)).block, (ad.add (j * 10)).off + 2, none⟩ = some (.string x.rf) ∧ w.cell? ⟨(ad.add (j * 10)).block, (ad.add (j * 10)).off + 3, none⟩ = some (.string x.on) ∧ w.cell? ⟨(ad.add (j * 10)).block, (ad.add (j * 10)).off + 4, none⟩ = some (.int .i64 x.num) ∧ w.cell? ⟨(ad.add (j * 10)).block, (ad.add (j * 10)).off + 5, none⟩ = some (.int .i64 x.kd) ∧ w.cell? ⟨(ad.add (j * 10)).block, (ad.add (j * 10)).off + 6, none⟩ = some (.int .i64 x.ky) ∧ w.cell? ⟨(ad.add (j * 10)).block, (ad.add (j * 10)).off + 7, none⟩ = some (.bool x.rp) ∧ w.cell? ⟨(ad.add (j * 10)).block, (ad.add (j * 10)).off + 8, none⟩ = some (.bool x.op) ∧ w.cell? ⟨(ad.add (j * 10)).block, (ad.add (j * 10)).off + 9, none⟩ = some (.bool x.un) := by
  obtain ⟨ad, x, e, hx, a0, a1⟩ := h.at2 hj
  exact ⟨ad, x, e, hx, a0, a1 1 _ (by omega) rfl, a1 2 _ (by omega) rfl, a1 3 _ (by omega) rfl, a1 4 _ (by omega) rfl, a1 5 _ (by omega) rfl, a1 6 _ (by omega) rfl, a1 7 _ (by omega) rfl, a1 8 _ (by omega) rfl, a1 9 _ (by omega) rfl⟩
theorem RS.atB {w : World} {B : Nat} {A : Option Addr} {n : Nat} {l : List BrkV} (h : RS BrkV.cells 5 w B A n l) {j : Nat} (hj : j < n) :
    ∃ ad x, A = some ad ∧ l[j]? = some x ∧ w.cell? (ad.add (j * 5)) = some (.string x.msg) ∧ w.cell? ⟨(ad.add (j * 5)).block, (ad.add (j * 5)).off + 1, none⟩ = some (.string x.what) ∧ w.cell? ⟨(ad.add (j * 5)).block, (ad.add (j * 5)).off + 2, none⟩ = some (.int .i64 x.num) ∧ w.cell? ⟨(ad.add (j * 5)).block, (ad.add (j * 5)).off + 3, none⟩ = some (.int .i64 x.why) ∧ w.cell? ⟨(ad.add (j * 5)).block, (ad.add (j * 5)).off + 4, none⟩ = some (.bool x.js) := by
  obtain ⟨ad, x, e, hx, a0, a1⟩ := h.at2 hj
  exact ⟨ad, x, e, hx, a0, a1 1 _ (by omega) rfl, a1 2 _ (by omega) rfl, a1 3 _ (by omega) rfl, a1 4 _ (by omega) rfl⟩
/-! ### Kinds -/
def fam (k : Int) : Int :=
  if k = 1 ∨ k = 2 ∨ k = 3 ∨ k = 4 ∨ k = 11 ∨ k = 14 then 1 else if k = 5 ∨ k = 6 then 5 else if k = 7 ∨ k = 9 then 7 else if k = 8 ∨ k = 10 then 8 else if k = 12 ∨ k = 13 then 12 else if k = 15 then 15 else 0
def grp (k : Int) : Int :=
  if k = 1 ∨ k = 2 ∨ k = 3 ∨ k = 4 ∨ k = 11 ∨ k = 14 then 1 else if k = 5 ∨ k = 6 then 2 else if k = 7 ∨ k = 9 then 3 else if k = 8 ∨ k = 10 then 4 else if k = 12 ∨ k = 13 then 5 else if k = 15 then 6 else 0
def alikeB (a b : Int) : Bool := grp a != 0 && grp a == grp b
def alikeF (a b : Int) : Bool := fam a != 0 && fam a == fam b
def grpOf (x : Int) : Int := if x = 1 then 1 else if x = 5 then 2 else if x = 7 then 3 else if x = 8 then 4 else if x = 12 then 5 else if x = 15 then 6 else 0
theorem grp_fam (k : Int) : grp k = grpOf (fam k) := by
  unfold grp fam
  split
  · rfl
  split
  · rfl
  split
  · rfl
  split
  · rfl
  split
  · rfl
  split <;> rfl
theorem fam_cases (k : Int) : fam k = 1 ∨ fam k = 5 ∨ fam k = 7 ∨ fam k = 8 ∨ fam k = 12 ∨ fam k = 15 ∨ fam k = 0 := by
  unfold fam
  repeat' split
  all_goals simp
theorem alikeF_eq (a b : Int) : alikeF a b = alikeB a b := by
  unfold alikeF alikeB
  rw [grp_fam a, grp_fam b]
  rcases fam_cases a with h | h | h | h | h | h | h <;> rcases fam_cases b with h' | h' | h' | h' | h' | h' | h' <;> rw [h, h'] <;> rfl
def digs (k : Int) : Int := if k = 1 ∨ k = 3 ∨ k = 5 ∨ k = 7 ∨ k = 9 then 1 else if k = 2 ∨ k = 4 ∨ k = 6 ∨ k = 8 ∨ k = 10 then 2 else 0
def saidK (k : Int) : Int := if k = 1 ∨ k = 3 ∨ k = 5 ∨ k = 7 ∨ k = 9 then 100 else if k = 2 ∨ k = 4 ∨ k = 6 ∨ k = 8 ∨ k = 10 then 101 else k
def shownB (a b : Int) : Bool := a == b || digs a != 0 && digs a == digs b
theorem said_shown (a b : Int) (ha : 0 ≤ a ∧ a ≤ 15) (hb : 0 ≤ b ∧ b ≤ 15) : (saidK a == saidK b) = shownB a b := by
  have h1 : a = 0 ∨ a = 1 ∨ a = 2 ∨ a = 3 ∨ a = 4 ∨ a = 5 ∨ a = 6 ∨ a = 7 ∨ a = 8 ∨ a = 9 ∨ a = 10 ∨ a = 11 ∨ a = 12 ∨ a = 13 ∨ a = 14 ∨ a = 15 := by omega
  have h2 : b = 0 ∨ b = 1 ∨ b = 2 ∨ b = 3 ∨ b = 4 ∨ b = 5 ∨ b = 6 ∨ b = 7 ∨ b = 8 ∨ b = 9 ∨ b = 10 ∨ b = 11 ∨ b = 12 ∨ b = 13 ∨ b = 14 ∨ b = 15 := by omega
  rcases h1 with rfl | rfl | rfl | rfl | rfl | rfl | rfl | rfl | rfl | rfl | rfl | rfl | rfl | rfl | rfl | rfl <;> rcases h2 with rfl | rfl | rfl | rfl | rfl | rfl | rfl | rfl | rfl | rfl | rfl | rfl | rfl | rfl | rfl | rfl <;> rfl
/-! ### Fields -/
def labelB (f g : FldV) : Bool := ((f.ky != 0) != (g.ky != 0)) || f.rp != g.rp || (f.op != g.op && f.kd != 15)
/-- Are two fields unlike, by what is the same of kinds? -/
def unlikeB (s : Int → Int → Bool) (f g : FldV) : Bool := !s f.kd g.kd || (f.ky != 0 && g.ky != 0 && !s f.ky g.ky)
def refW (f g : FldV) : Bool := f.kd == 15 && g.kd == 15 && !sameT f.rf g.rf
def refJ (f g : FldV) : Bool := (f.kd == 15 && g.kd == 15 || f.kd == 14 && g.kd == 14) && !sameT f.rf g.rf
def refC (f g : FldV) : Bool := f.kd == g.kd && (f.kd == 15 || f.kd == 14) && !sameT f.rf g.rf
def oneB (f g : FldV) : Bool := !sameT f.on g.on
def nameB (f g : FldV) : Bool := !sameT f.js g.js
theorem refC_eq (f g : FldV) : refC f g = refJ f g := by
  unfold refC refJ
  congr 1
  by_cases h1 : f.kd = 15
  · rw [h1]
    by_cases h3 : g.kd = 15
    · rw [h3]; rfl
    · have e1 : ((15 : Int) == g.kd) = false := beq_false_of_ne (Ne.symm h3)
      have e2 : (g.kd == (15 : Int)) = false := beq_false_of_ne h3
      rw [e1, e2]; rfl
  · by_cases h2 : f.kd = 14
    · rw [h2]
      by_cases h3 : g.kd = 14
      · rw [h3]; rfl
      · have e1 : ((14 : Int) == g.kd) = false := beq_false_of_ne (Ne.symm h3)
        have e2 : (g.kd == (14 : Int)) = false := beq_false_of_ne h3
        rw [e1, e2]; rfl
    · have e1 : (f.kd == (15 : Int)) = false := beq_false_of_ne h1
      have e2 : (f.kd == (14 : Int)) = false := beq_false_of_ne h2
      rw [e1, e2]; simp
def wireWhy (f g : FldV) : Int := if unlikeB alikeB f g then 2 else if labelB f g then 3 else if refW f g then 4 else if oneB f g then 8 else 0
def jsonWhy (f g : FldV) : Int := if unlikeB (fun a b => saidK a == saidK b) f g then 2 else if labelB f g then 3 else if refJ f g then 4 else if oneB f g then 8 else if nameB f g then 5 else 0
/-- The first question that hurts. -/
def askL (f g : FldV) : List (Int × (FldV → FldV → Bool)) → Int
  | [] => 0
  | q :: l => if q.2 f g then q.1 else askL f g l
def wireQ : List (Int × (FldV → FldV → Bool)) := [(2, unlikeB alikeF), (3, labelB), (4, refW), (8, oneB)]
def jsonQ : List (Int × (FldV → FldV → Bool)) := [(2, unlikeB shownB), (3, labelB), (4, refC), (8, oneB), (5, nameB)]
theorem ask_wire (f g : FldV) : askL f g wireQ = wireWhy f g := by
  have : alikeF = alikeB := by funext a b; exact alikeF_eq a b
  unfold wireQ wireWhy
  rw [this]
  rfl
def KindsOk (f : FldV) : Prop := (0 ≤ f.kd ∧ f.kd ≤ 15) ∧ (0 ≤ f.ky ∧ f.ky ≤ 15)
theorem ask_json (f g : FldV) (hf : KindsOk f) (hg : KindsOk g) : askL f g jsonQ = jsonWhy f g := by
  have h1 : unlikeB shownB f g = unlikeB (fun a b => saidK a == saidK b) f g := by
    unfold unlikeB
    show _ = (!(saidK f.kd == saidK g.kd) || (f.ky != 0 && g.ky != 0 && !(saidK f.ky == saidK g.ky)))
    rw [said_shown _ _ hf.1 hg.1, said_shown _ _ hf.2 hg.2]
  unfold jsonQ jsonWhy
  simp only [askL, h1, refC_eq]
/-! ### What hurts -/
def bothL (b : BrkV) : List BrkV := [b, { b with js := true }]
def empT : ByteArray := ⟨#[]⟩
def fldAt (fs : List FldV) (n : Int) : Option FldV := fs.find? (fun f => f.num == n)
def msgAt (s : SchV) (nm : ByteArray) : Option MsgV := s.ms.find? (fun m => sameT m.nm nm)
def enmAt (s : SchV) (nm : ByteArray) : Option EnmV := s.es.find? (fun m => sameT m.nm nm)
def srvAt (s : SchV) (nm : ByteArray) : Option SrvV := s.ss.find? (fun m => sameT m.nm nm)
def mthAt (s : SchV) (nm mt : ByteArray) : Option MthV := (srvAt s nm).bind fun x => x.ts.find? (fun t => sameT t.nm mt)
def whyL (b : BrkV) (k : Int) : List BrkV := if k = 0 then [] else [{ b with why := k }]
def twoBrk (nm : ByteArray) (f g : FldV) : List BrkV := whyL ⟨nm, f.nm, f.num, 0, false⟩ (wireWhy f g) ++ whyL ⟨nm, f.nm, f.num, 0, true⟩ (jsonWhy f g)
def fldBrk (nm : ByteArray) (gs : List FldV) (f : FldV) : List BrkV :=
  match fldAt gs f.num with
  | none => bothL ⟨nm, f.nm, f.num, 1, false⟩
  | some g => twoBrk nm f g
def msgBrk (new : SchV) (m : MsgV) : List BrkV :=
  match msgAt new m.nm with
  | none => bothL ⟨m.nm, empT, 0, 1, false⟩
  | some n => m.fs.flatMap (fldBrk m.nm n.fs)
def sameV (a b : EvV) : Bool := sameT a.nm b.nm && a.num == b.num
def evBrk (nm : ByteArray) (vs : List EvV) (v : EvV) : List BrkV := if vs.any (fun x => sameV x v) then [] else [⟨nm, v.nm, v.num, 6, true⟩]
def enmBrk (new : SchV) (e : EnmV) : List BrkV :=
  match enmAt new e.nm with
  | none => [⟨e.nm, empT, 0, 1, true⟩]
  | some n => e.vs.flatMap (evBrk e.nm n.vs)
def sameM (a b : MthV) : Bool := sameT a.nm b.nm && sameT a.ins b.ins && sameT a.outs b.outs && a.kd == b.kd
def mthBrk (new : SchV) (nm : ByteArray) (t : MthV) : List BrkV :=
  if ((mthAt new nm t.nm).map fun d => sameM d t).getD false then [] else bothL ⟨nm, t.nm, 0, 7, false⟩
def srvBrk (new : SchV) (x : SrvV) : List BrkV :=
  if new.ss.any (fun y => sameT y.nm x.nm) then x.ts.flatMap (mthBrk new x.nm) else bothL ⟨x.nm, empT, 0, 1, false⟩
def breaksOf (old new : SchV) : List BrkV := old.ms.flatMap (msgBrk new) ++ (old.es.flatMap (enmBrk new) ++ old.ss.flatMap (srvBrk new))
/-- How a schema lies in memory, below block B. -/
structure SchR (w : World) (B : Nat) (s : SchV) : Prop where
  m : RS MsgV.cells 2 w B s.mA s.mn s.ms
  f : ∀ m ∈ s.ms, RS FldV.cells 10 w B m.fA m.fn m.fs
  e : RS EnmV.cells 2 w B s.eA s.en s.es
  v : ∀ e ∈ s.es, RS EvV.cells 2 w B e.vA e.vn e.vs
  u : RS SrvV.cells 2 w B s.sA s.sn s.ss
  t : ∀ x ∈ s.ss, RS MthV.cells 4 w B x.tA x.tn x.ts
theorem SchR.below {w w' : World} {B : Nat} {s : SchV} (h : SchR w B s) (hb : Below B w w') : SchR w' B s :=
  ⟨h.m.below hb, fun x hx => (h.f x hx).below hb, h.e.below hb, fun x hx => (h.v x hx).below hb, h.u.below hb, fun x hx => (h.t x hx).below hb⟩
/-- Not too long. -/
structure SchZ (s : SchV) : Prop where
  m : s.mn ≤ 20
  f : ∀ m ∈ s.ms, m.fn ≤ 40
  e : s.en ≤ 20
  v : ∀ e ∈ s.es, e.vn ≤ 40
  u : s.sn ≤ 20
  t : ∀ x ∈ s.ss, x.tn ≤ 40
  k : ∀ m ∈ s.ms, ∀ f ∈ m.fs, KindsOk f
end Go.Own.Cm
