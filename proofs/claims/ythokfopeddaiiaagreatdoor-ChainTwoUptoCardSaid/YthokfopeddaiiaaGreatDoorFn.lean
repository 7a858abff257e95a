/-
  Values that are functions: what they answer, for every state in which they are asked. No program.
-/
import Derived.Test.YthokfopeddaiiaaGreatDoorBase
import Derived.Test.YthokfopeddaiiaaGreatDoorRng
import Derived.Shelf.Abstract
namespace Go.Own.Fn
open Go Go.RowKit Go.Own Go.Proofs
variable {σ X Y : Type}
/-- The state that a function turns: how it lies in memory (row: the one block that may change). -/
structure Stt (σ : Type) where
  row : Option Nat
  St : σ → World → Prop
/-- How what is asked and answered lies in memory. -/
structure Lvl (X Y : Type) where
  RX : World → Value → X → Prop
  RY : World → Value → Y → Prop
/-- All blocks but some are as they were. -/
structure Kx (ex : Nat → Prop) (w w' : World) : Prop where
  os : w'.os = w.os
  tape : w'.tape = w.tape
  output : w'.output = w.output
  size : w.heap.size ≤ w'.heap.size
  block : ∀ i, i < w.heap.size → ¬ ex i → w'.heap[i]? = w.heap[i]?
section
variable {ex ex' : Nat → Prop} {a b c w w' : World}
theorem Kx.refl (ex : Nat → Prop) (w : World) : Kx ex w w := ⟨rfl, rfl, rfl, Nat.le_refl _, fun _ _ _ => rfl⟩
theorem Kx.trans (h : Kx ex a b) (k : Kx ex b c) : Kx ex a c :=
  ⟨k.os.trans h.os, k.tape.trans h.tape, k.output.trans h.output, Nat.le_trans h.size k.size, fun i hi hn => (k.block i (Nat.lt_of_lt_of_le hi h.size) hn).trans (h.block i hi hn)⟩
theorem Kx.grown {row : Option Nat} (h : w.grownBy w' row) (hr : ∀ g, row = some g → ex g) : Kx ex w w' :=
  ⟨h.os, h.tape, h.output, h.size, fun i hi hn => h.block i hi (fun e => hn (hr i e.symm))⟩
theorem Kx.below (h : Below w.heap.size w w') : Kx ex w w' := ⟨h.os, h.tape, h.output, h.size, fun i hi _ => h.block i hi⟩
theorem Kx.more (h : Kx ex w w') (hx : ∀ i, i < w.heap.size → ex i → ex' i) : Kx ex' w w' := ⟨h.os, h.tape, h.output, h.size, fun i hi hn => h.block i hi fun he => hn (hx i hi he)⟩
theorem Kx.put {g : Nat} {t : TypeId} {cs : Array Value} (_hb : Blk w g t cs) (hg : ex g) (k : Nat) (v : Value) : Kx ex w (w.setCell ⟨g, k, none⟩ v) :=
  Kx.grown (grown_setCell (World.grownBy.refl w (some g)) k v) fun i e => by injection e with e; exact e ▸ hg
theorem Kx.putObj {g : Nat} (hg : ex g) (o : Obj) (hs : g < w.heap.size) : Kx ex w (w.putObj g o) :=
  ⟨rfl, rfl, rfl, by rw [World.putObj_size]; exact Nat.le_refl _, fun i _ hn => World.putObj_heap_other (by rintro rfl; exact hn hg)⟩
theorem Blk.kx {g : Nat} {t : TypeId} {cs : Array Value} (hb : Blk w g t cs) (h : Kx ex w w') (hg : ¬ ex g) : Blk w' g t cs := (h.block g hb.lt hg).trans hb
end
/-- v is the function F, from w0 on, whatever becomes of the blocks ex. -/
def Fnc (P : Program) (S : Stt σ) (L : Lvl X Y) (ex : Nat → Prop) (v : Value) (F : X → σ → Y × σ) (w0 : World) : Prop :=
  ∃ (K : Nat) (first cap : Array Value), v = .func (.func K) first cap ∧ Enters P K ∧ ∀ (w : World) (s : σ) (xv : Value) (x : X), Kx ex w0 w → S.St s w → L.RX w xv x →
    Calls P K (first.push xv ++ cap) w fun e w' => ∃ yv, e = .returned yv ∧ L.RY w' yv (F x s).1 ∧ S.St (F x s).2 w' ∧ w.grownBy w' S.row
/-- v goes around functions as A does, from w0 on. -/
def Arnd (P : Program) (S : Stt σ) (L L' : Lvl X Y) (ex : Nat → Prop) (v : Value) (A : (X → σ → Y × σ) → X → σ → Y × σ) (w0 : World) : Prop :=
  ∃ (K : Nat) (first cap : Array Value), v = .func (.func K) first cap ∧ Enters P K ∧ ∀ (w : World) (s : σ) (xv : Value) (x : X) (nv : Value) (F : X → σ → Y × σ) (exF : Nat → Prop), (∀ g, S.row = some g → exF g) → Kx ex w0 w → Fnc P S L' exF nv F w → S.St s w → L.RX w xv x →
    Calls P K (first ++ (#[xv, nv] ++ cap)) w fun e w' => ∃ yv, e = .returned yv ∧ L.RY w' yv (A F x s).1 ∧ S.St (A F x s).2 w' ∧ w.grownBy w' S.row
section
variable {P : Program} {S : Stt σ} {L L' : Lvl X Y} {ex ex' : Nat → Prop} {v : Value} {F : X → σ → Y × σ} {A : (X → σ → Y × σ) → X → σ → Y × σ} {w w' : World}
theorem Fnc.kx (h : Fnc P S L ex v F w) (hg : Kx ex w w') : Fnc P S L ex v F w' := by
  obtain ⟨K, first, cap, e, hE, hc⟩ := h
  exact ⟨K, first, cap, e, hE, fun w s xv x hw => hc w s xv x (hg.trans hw)⟩
theorem Arnd.kx (h : Arnd P S L L' ex v A w) (hg : Kx ex w w') : Arnd P S L L' ex v A w' := by
  obtain ⟨K, first, cap, e, hE, hc⟩ := h
  exact ⟨K, first, cap, e, hE, fun w s xv x nv F exF hr hw => hc w s xv x nv F exF hr (hg.trans hw)⟩
/-- More blocks are let be, that are not there yet; or fewer. -/
theorem Fnc.letbe (h : Fnc P S L ex v F w) (hx : ∀ i, i < w.heap.size → ex' i → ex i) : Fnc P S L ex' v F w := by
  obtain ⟨K, first, cap, e, hE, hc⟩ := h
  exact ⟨K, first, cap, e, hE, fun w s xv x hw => hc w s xv x (hw.more hx)⟩
theorem Arnd.letbe (h : Arnd P S L L' ex v A w) (hx : ∀ i, i < w.heap.size → ex' i → ex i) : Arnd P S L L' ex' v A w := by
  obtain ⟨K, first, cap, e, hE, hc⟩ := h
  exact ⟨K, first, cap, e, hE, fun w s xv x nv F exF hr hw hf => hc w s xv x nv F exF hr (hw.more hx) hf⟩
/-- Less is asked of it, more answers are let be. -/
theorem Fnc.lvl (h : Fnc P S L' ex v F w) (hx : ∀ w xv x, L.RX w xv x → L'.RX w xv x) (hy : ∀ w yv y, L'.RY w yv y → L.RY w yv y) : Fnc P S L ex v F w := by
  obtain ⟨K, first, cap, e, hE, hc⟩ := h
  refine ⟨K, first, cap, e, hE, fun w s xv x hw hs hr => (hc w s xv x hw hs (hx _ _ _ hr)).mono ?_⟩
  rintro e w1 ⟨yv, he, h1, h2, h3⟩
  exact ⟨yv, he, hy _ _ _ h1, h2, h3⟩
theorem Fnc.same {F' : X → σ → Y × σ} (h : Fnc P S L ex v F w) (hf : ∀ x s, F x s = F' x s) : Fnc P S L ex v F' w := by
  have : F = F' := by funext x s; exact hf x s
  exact this ▸ h
end
theorem grown_new {w w1 : World} {row : Option Nat} {g : Nat} (h : w.grownBy w1 row) (hg : w.heap.size ≤ g) (k : Nat) (v : Value) : w.grownBy (w1.setCell ⟨g, k, none⟩ v) row :=
  have h' := grown_setCell (World.grownBy.refl w1 (some g)) k v
  ⟨h'.os.trans h.os, h'.tape.trans h.tape, h'.output.trans h.output, Nat.le_trans h.size h'.size, fun i hi hn => (h'.block i (Nat.lt_of_lt_of_le hi h.size) (by intro e; injection e with e; omega)).trans (h.block i hi hn)⟩
/-- All blocks of some types stay as they are. -/
def Kt (ts : TypeId → Prop) (w w' : World) : Prop := ∀ i e cs, ts e → Blk w i e cs → Blk w' i e cs
theorem Kt.below {ts : TypeId → Prop} {w w' : World} (h : Below w.heap.size w w') : Kt ts w w' := fun _ _ _ _ hb => hb.below h hb.lt
theorem Kt.trans {ts : TypeId → Prop} {a b c : World} (h : Kt ts a b) (k : Kt ts b c) : Kt ts a c := fun i e cs he hb => k i e cs he (h i e cs he hb)
theorem Kt.put {ts : TypeId → Prop} {w : World} {g : Nat} {t : TypeId} {cs : Array Value} (hb : Blk w g t cs) (ht : ¬ ts t) (k : Nat) (v : Value) : Kt ts w (w.setCell ⟨g, k, none⟩ v) := fun i e cs' he hb' => by
  have hne : i ≠ g := by
    rintro rfl
    unfold Blk at hb hb'
    rw [hb] at hb'
    injection hb' with hb'
    injection hb' with _ ht'
    exact ht (ht' ▸ he)
  exact hb'.grown (grown_setCell (World.grownBy.refl w (some g)) k v) (by intro e; injection e with e; exact hne e)
/-- What is held of the state and of what is asked and answered stays where blocks of the types ts do. -/
structure Keepers (ts : TypeId → Prop) (S : Stt σ) (L : Lvl X Y) : Prop where
  st : ∀ {s w w'}, Kt ts w w' → S.St s w → S.St s w'
  rx : ∀ {xv x w w'}, Kt ts w w' → L.RX w xv x → L.RX w' xv x
  ry : ∀ {yv y w w'}, Kt ts w w' → L.RY w yv y → L.RY w' yv y
/-- What is asked is a call, what is answered an answer. -/
structure Shaped (L : Lvl X Y) : Prop where
  x : ∀ {w xv x}, L.RX w xv x → ∃ p A n c A2 n2 c2, xv = .agg #[.string p, .slice A n c, .slice A2 n2 c2]
  y : ∀ {w yv y}, L.RY w yv y → ∃ k t A n c A2 n2 c2, yv = .agg #[.int .i64 k, .string t, .slice A n c, .slice A2 n2 c2]
/-- Functions around one another. -/
def wrapS (As : List ((X → σ → Y × σ) → X → σ → Y × σ)) (F : X → σ → Y × σ) : X → σ → Y × σ := As.foldr (fun A G => A G) F
/-- What the cells of a slice of functions around functions are; the first stands at level k. -/
def IsArs (P : Program) (S : Stt σ) (L : Nat → Lvl X Y) (k : Nat) (ex : Nat → Prop) (w : World) (A : Option Addr) (n : Nat) (As : List ((X → σ → Y × σ) → X → σ → Y × σ)) : Prop :=
  As.length = n ∧ ∀ j B, As[j]? = some B → ∃ ad av, A = some ad ∧ ad.block < w.heap.size ∧ w.cell? (ad.add j) = some av ∧ Arnd P S (L (k + j)) (L (k + j + 1)) ex av B w
/-- What a call that makes functions out of new blocks lets be. -/
def exW (ex : Nat → Prop) (b : Nat) (i : Nat) : Prop := ex i ∨ (b ≤ i ∧ i < b + 4)
theorem exW_no {ex : Nat → Prop} {b B : Nat} (hex : ∀ g, ex g → g < b) (h : b + 4 ≤ B) : ¬ exW ex b B := by
  rintro (h1 | h1)
  · have := hex _ h1; omega
  · omega
/-- While functions are laid around a function. -/
structure WrJ (P : Program) (S : Stt σ) (Lv : Lvl X Y) (ex : Nat → Prop) (w : World) (L : LoopState → Option Code → Loop) (tf tl : TypeId) (sl : Value) (st : LoopState) (pe : Option Code) (G : X → σ → Y × σ) (W : World) : Prop where
  below : Below w.heap.size w W
  sl : Blk W (w.heap.size + 1) tl #[sl]
  mark : W.heap[w.heap.size + 2]? = some (.deferred (some []))
  entry : W.heap[w.heap.size + 3]? = some (.loop (L st pe))
  size : w.heap.size + 4 ≤ W.heap.size
  f : ∃ gv, Blk W w.heap.size tf #[gv] ∧ Fnc P S Lv (exW ex w.heap.size) gv G W
/-- In the round's body. -/
structure Bdy (ex : Nat → Prop) (w : World) (R : LoopState → Option Code → Loop) (tf tl ta : TypeId) (sl av gv : Value) (W W2 : World) : Prop where
  below : Below w.heap.size w W2
  sl : Blk W2 (w.heap.size + 1) tl #[sl]
  mark : W2.heap[w.heap.size + 2]? = some (.deferred (some []))
  busy : W2.heap[w.heap.size + 3]? = some (.loop (R .busy none))
  size : W2.heap.size = W.heap.size + 1
  old : w.heap.size + 4 ≤ W.heap.size
  bf : Blk W2 w.heap.size tf #[gv]
  ba : Blk W2 W.heap.size ta #[av]
  kx : Kx (exW ex w.heap.size) W W2
theorem bdy_start {P : Program} {S : Stt σ} {Lv : Lvl X Y} {ex : Nat → Prop} {w W : World} {R : LoopState → Option Code → Loop} {tf tl : TypeId} {sl gv : Value} {G : X → σ → Y × σ} (h : WrJ P S Lv ex w R tf tl sl .ready none G W) (hg : Blk W w.heap.size tf #[gv]) (ta : TypeId) (av : Value) :
    Bdy ex w R tf tl ta sl av gv W ((W.alloc (.cells #[av] ta)).putObj (w.heap.size + 2 + 1) (.loop (R .busy none))) := by
  have hs := h.size
  have hl : w.heap.size + 2 + 1 < (W.alloc (.cells #[av] ta)).heap.size := by simp; omega
  have oth : ∀ i, i ≠ w.heap.size + 2 + 1 → ((W.alloc (.cells #[av] ta)).putObj (w.heap.size + 2 + 1) (.loop (R .busy none))).heap[i]? = (W.alloc (.cells #[av] ta)).heap[i]? := fun i hi => World.putObj_heap_other (by omega)
  have old : ∀ i, i < W.heap.size → i ≠ w.heap.size + 2 + 1 → ((W.alloc (.cells #[av] ta)).putObj (w.heap.size + 2 + 1) (.loop (R .busy none))).heap[i]? = W.heap[i]? := fun i hi hn => (oth i hn).trans (Below.heap_alloc W _ i hi)
  refine ⟨h.below.trans (((Below.refl _ _).alloc (by omega) _).trans (belowK_b (w := w) (Nat.le_refl _) _ _ _ _ (by omega) ((Below.heap_alloc W _ _ (by omega)).trans h.entry) rfl rfl)), ?_, ?_, World.putObj_heap_same hl, ?_, hs, ?_, ?_, ?_⟩
  · exact (old _ (by omega) (by omega)).trans h.sl
  · exact (old _ (by omega) (by omega)).trans h.mark
  · rw [World.putObj_size]; simp
  · exact (old _ (by omega) (by omega)).trans hg
  · exact (oth _ (by omega)).trans (Blk.new W ta #[av])
  · exact ⟨rfl, rfl, rfl, by rw [World.putObj_size]; simp, fun i hi hn => old i hi (by rintro rfl; exact hn (.inr (by omega)))⟩
/-- Behind the round's body: what was laid around stands. -/
theorem bdy_end {P : Program} {S : Stt σ} {L' : Lvl X Y} {ex : Nat → Prop} {w W W2 : World} {R : LoopState → Option Code → Loop} {tf tl ta : TypeId} {sl av gv nv : Value} {G : X → σ → Y × σ} (hex : ∀ g, ex g → g < w.heap.size)
    (h : Bdy ex w R tf tl ta sl av gv W W2)
    (hf : ∀ w0, Kx (exW ex w.heap.size) W w0 → Kx ex w w0 → Blk w0 W.heap.size ta #[av] → Blk w0 (W.heap.size + 1) tf #[gv] → Fnc P S L' (exW ex w.heap.size) nv G w0) :
    ((W2.alloc (.cells #[gv] tf)).setCell ⟨w.heap.size, 0, none⟩ nv).heap[w.heap.size + 2 + 1]? = some (.loop (R .busy none)) ∧
    WrJ P S L' ex w R tf tl sl .ready none G (((W2.alloc (.cells #[gv] tf)).setCell ⟨w.heap.size, 0, none⟩ nv).putObj (w.heap.size + 2 + 1) (.loop (R .ready none))) := by
  have hs := h.size
  have ho := h.old
  have e1 : ∀ i, i < W2.heap.size → i ≠ w.heap.size → ((W2.alloc (.cells #[gv] tf)).setCell ⟨w.heap.size, 0, none⟩ nv).heap[i]? = W2.heap[i]? := fun i hi hn => (Below.heap_setCell _ _ _ _ hn).trans (Below.heap_alloc W2 _ i hi)
  have bz : ((W2.alloc (.cells #[gv] tf)).setCell ⟨w.heap.size, 0, none⟩ nv).heap.size = W2.heap.size + 1 := by simp
  have e2 : ∀ i, i ≠ w.heap.size + 3 → (((W2.alloc (.cells #[gv] tf)).setCell ⟨w.heap.size, 0, none⟩ nv).putObj (w.heap.size + 2 + 1) (.loop (R .ready none))).heap[i]? = ((W2.alloc (.cells #[gv] tf)).setCell ⟨w.heap.size, 0, none⟩ nv).heap[i]? := fun i hi => World.putObj_heap_other (by omega)
  have b1 : ((W2.alloc (.cells #[gv] tf)).setCell ⟨w.heap.size, 0, none⟩ nv).heap[w.heap.size + 2 + 1]? = some (.loop (R .busy none)) := (e1 _ (by omega) (by omega)).trans h.busy
  have bn : Blk ((W2.alloc (.cells #[gv] tf)).setCell ⟨w.heap.size, 0, none⟩ nv) (W.heap.size + 1) tf #[gv] := by
    have := Blk.new W2 tf #[gv]
    rw [hs] at this
    exact this.far (by simp; omega) nv
  have bl : Below w.heap.size w (((W2.alloc (.cells #[gv] tf)).setCell ⟨w.heap.size, 0, none⟩ nv).putObj (w.heap.size + 2 + 1) (.loop (R .ready none))) :=
    ((h.below.alloc (by omega) _).setCell (by simp) _).trans (belowK_b (w := w) (Nat.le_refl _) _ _ _ _ (by omega) b1 rfl rfl)
  have kx : Kx (exW ex w.heap.size) W (((W2.alloc (.cells #[gv] tf)).setCell ⟨w.heap.size, 0, none⟩ nv).putObj (w.heap.size + 2 + 1) (.loop (R .ready none))) :=
    h.kx.trans ⟨rfl, rfl, rfl, by rw [World.putObj_size, bz]; omega, fun i hi hn => (e2 i (by rintro rfl; exact hn (.inr (by omega)))).trans (e1 i hi (by rintro rfl; exact hn (.inr (by omega))))⟩
  refine ⟨b1, bl, ?_, ?_, World.putObj_heap_same (by rw [bz]; omega), by rw [World.putObj_size, bz]; omega, nv, ?_, hf _ kx (Kx.below bl) ?_ ?_⟩
  · exact (e2 _ (by omega)).trans ((e1 _ (by omega) (by omega)).trans h.sl)
  · exact (e2 _ (by omega)).trans ((e1 _ (by omega) (by omega)).trans h.mark)
  · exact (e2 _ (by omega)).trans ((h.bf.alloc _).put 0 nv)
  · exact (e2 _ (by omega)).trans ((e1 _ (by omega) (by omega)).trans h.ba)
  · exact (e2 _ (by omega)).trans bn
/-- v is a function of numbers that turns no state. -/
def Pur (P : Program) (ex : Nat → Prop) (v : Value) (f : Int → Value) (w0 : World) : Prop :=
  ∃ (K : Nat) (cap : Array Value), v = .func (.func K) #[] cap ∧ Enters P K ∧ ∀ (w : World) (x : Int), Kx ex w0 w →
    Calls P K (#[.int .i64 x] ++ cap) w fun e w' => e = .returned (f x) ∧ Below w.heap.size w w'
theorem Pur.kx {P : Program} {ex : Nat → Prop} {v : Value} {f : Int → Value} {w w' : World} (h : Pur P ex v f w) (hg : Kx ex w w') : Pur P ex v f w' := by
  obtain ⟨K, cap, e, hE, hc⟩ := h
  exact ⟨K, cap, e, hE, fun w x hw => hc w x (hg.trans hw)⟩
/-- Numbers. -/
def intL : Lvl Int Int := ⟨fun _ v x => v = .int .i64 x, fun _ v x => v = .int .i64 x⟩
/-- The state stays where what is there stays. -/
def Steady (S : Stt σ) : Prop := ∀ s w w', Below w.heap.size w w' → S.St s w → S.St s w'
/-- Asked again and again. -/
def timesF (again : Int → Bool) (F : Int → σ → Int × σ) (x : Int) : Nat → Int × σ → Int × σ
  | 0, r => r
  | k + 1, r => if again r.1 then timesF again F x k (F x r.2) else r
theorem timesF_stop (f : Int → Bool) (F : Int → σ → Int × σ) (x : Int) (k : Nat) (r : Int × σ) (h : f r.1 = false) : timesF f F x k r = r := by
  cases k with
  | zero => rfl
  | succ k => simp [timesF, h]
theorem timesF_go (f : Int → Bool) (F : Int → σ → Int × σ) (x : Int) {k M : Nat} (hk : k < M) (r : Int × σ) (h : f r.1 = true) : timesF f F x (M - (k + 1)) (F x r.2) = timesF f F x (M - k) r := by
  obtain ⟨d, rfl⟩ : ∃ d, M = k + 1 + d := ⟨M - (k + 1), by omega⟩
  rw [show k + 1 + d - (k + 1) = d by omega, show k + 1 + d - k = d + 1 by omega]
  simp [timesF, h]
end Go.Own.Fn
