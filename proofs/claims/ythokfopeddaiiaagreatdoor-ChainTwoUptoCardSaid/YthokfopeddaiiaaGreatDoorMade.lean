/-
  Contracts: parleylaw27.made, lists, counter.ask.
-/
import Derived.Test.YthokfopeddaiiaaGreatDoorInt
import Derived.Test.YthokfopeddaiiaaGreatDoorWri
import Derived.Laws.AppendOwn
import Derived.Maps.AppendAt
import Derived.LoopTactic
import Derived.OwnWalk
namespace Go.Proofs.YthokfopeddaiiaaGreatDoor
open Go.RowKit Go.Own Go.Own.Fn Go.Shelf
variable {σ : Type}
abbrev xr (a b : Int) : Int := bits BinOp.xor IntKind.i64 a b
def odd (x : Int) : Bool := bits BinOp.and IntKind.i64 x 1 == 1
theorem ret_int {a b : Int} (h : a = b) : Ending.returned (.int .i64 a) = .returned (.int .i64 b) := by rw [h]
theorem pur84 (b : Nat) (k N x : Int) (w : World) (hb : Blk w b 86 #[.int .i64 k, .int .i64 N]) :
    Calls Tryz.prog 84 #[.int .i64 x, .pointer (some ⟨b, 0, none⟩)] w fun e w' => e = .returned (.int .i64 (xr x N)) ∧ w = w' := by
  have c1 : w.cell? ⟨b, 1, none⟩ = some (.int .i64 N) := hb.cell 1
  go_enter Tryz.func84, Tryz.ntmps84
  go_wp2
  go_ret
  exact ⟨rfl, rfl⟩
theorem pur85 (b : Nat) (k N x : Int) (w : World) (hb : Blk w b 86 #[.int .i64 k, .int .i64 N]) :
    Calls Tryz.prog 85 #[.int .i64 x, .pointer (some ⟨b, 0, none⟩)] w fun e w' => e = .returned (.int .i64 (xr (wrap64 (x * 3)) N)) ∧ w = w' := by
  have c1 : w.cell? ⟨b, 1, none⟩ = some (.int .i64 N) := hb.cell 1
  go_enter Tryz.func85, Tryz.ntmps85
  go_wp2
  go_ret
  exact ⟨rfl, rfl⟩
theorem pur88 (b : Nat) (k N x : Int) (w : World) (hb : Blk w b 86 #[.int .i64 k, .int .i64 N]) :
    Calls Tryz.prog 88 #[.int .i64 x, .pointer (some ⟨b, 0, none⟩)] w fun e w' => e = .returned (.int .i64 (xr (wrap64 (x * 5)) N)) ∧ w = w' := by
  have c1 : w.cell? ⟨b, 1, none⟩ = some (.int .i64 N) := hb.cell 1
  go_enter Tryz.func88, Tryz.ntmps88
  go_wp2
  go_ret
  exact ⟨rfl, rfl⟩
theorem pur87 (x : Int) (w : World) :
    Calls Tryz.prog 87 #[.int .i64 x] w fun e w' => e = .returned (.bool (odd x)) ∧ w = w' := by
  go_enter Tryz.func87, Tryz.ntmps87
  go_wp2
  go_ret
  exact ⟨rfl, rfl⟩
theorem pur89 (x : Int) (w : World) :
    Calls Tryz.prog 89 #[.int .i64 x] w fun e w' => e = .returned (.bool (odd x)) ∧ w = w' := by
  go_enter Tryz.func89, Tryz.ntmps89
  go_wp2
  go_ret
  exact ⟨rfl, rfl⟩
/-- A counter. -/
def cnt (b : Nat) : Stt Int := ⟨some b, fun n w => Blk w b 50 #[.int .i64 n]⟩
theorem cnt_steady (b : Nat) : Steady (cnt b) := fun _ _ _ hb h => Blk.below h hb h.lt
def askF (x n : Int) : Int × Int := (wrap64 (wrap64 (x * 7) + wrap64 (n + 1)), wrap64 (n + 1))
theorem ask_any (b : Nat) (x n : Int) (w : World) (hb : Blk w b 50 #[.int .i64 n]) :
    Calls Tryz.prog 20 #[.pointer (some ⟨b, 0, none⟩), .int .i64 x] w fun e w' => e = .returned (.int .i64 (askF x n).1) ∧ Blk w' b 50 #[.int .i64 (askF x n).2] ∧ w.grownBy w' (some b) := by
  have c1 : w.cell? ⟨b, 0, none⟩ = some (.int .i64 n) := hb.cell 0
  have c2 := hb.frozen 0
  have c3 := hb.lt
  have H := Lib.hid hb
  clear hb
  go_enter Tryz.func20, Tryz.ntmps20
  go_wp2
  go_ret
  exact ⟨rfl, H.out.put 0 _, grown_setCell (World.grownBy.refl w _) 0 _⟩
theorem ask_fnc (ex : Nat → Prop) (b : Nat) (w : World) : Fnc Tryz.prog (cnt b) intL ex (.func (.func 20) #[.pointer (some ⟨b, 0, none⟩)] #[]) askF w := by
  refine ⟨20, #[.pointer (some ⟨b, 0, none⟩)], #[], rfl, enters_of Tryz.func20 (by kernel_rfl) rfl, fun w s xv x hw hs hxv => ?_⟩
  obtain rfl : xv = .int .i64 x := hxv
  refine (ask_any b x s w hs).mono ?_
  rintro e w1 ⟨rfl, h1, h2⟩
  exact ⟨_, rfl, rfl, h1, h2⟩
theorem before_i (S : Stt σ) (hS : Steady S) (ex : Nat → Prop) (gv : Value) (f : Int → Int) (w : World) (hex : ∀ g, ex g → g < w.heap.size) (hg : Pur Tryz.prog ex gv (fun x => .int .i64 (f x)) w) :
    Calls Tryz.prog 28 #[gv] w fun e w' => ∃ r, e = .returned r ∧ Arnd Tryz.prog S intL intL ex r (fun F x s => F (f x) s) w' ∧ Below w.heap.size w w' := by
  have HG := Lib.hid hg
  obtain ⟨K, cap, rfl, _⟩ := hg
  go_enter Tryz.func28, Tryz.ntmps28
  go_wp2
  go_ret
  have hb : Below w.heap.size w (w.alloc (.cells #[(.func (.func K) #[] cap)] 51)) := (Below.refl _ _).alloc (Nat.le_refl _) _
  exact ⟨_, rfl, before1_i S hS ex w.heap.size (.func (.func K) #[] cap) f _ (Blk.new _ _ _) (fun h => Nat.lt_irrefl _ (hex _ h)) (HG.out.kx (Kx.below hb)), hb⟩
theorem after_i (S : Stt σ) (hS : Steady S) (ex : Nat → Prop) (hrow : ∀ g, S.row = some g → ex g) (gv : Value) (f : Int → Int) (w : World) (hex : ∀ g, ex g → g < w.heap.size) (hg : Pur Tryz.prog ex gv (fun x => .int .i64 (f x)) w) :
    Calls Tryz.prog 30 #[gv] w fun e w' => ∃ r, e = .returned r ∧ Arnd Tryz.prog S intL intL ex r (fun F x s => (f (F x s).1, (F x s).2)) w' ∧ Below w.heap.size w w' := by
  have HG := Lib.hid hg
  obtain ⟨K, cap, rfl, _⟩ := hg
  go_enter Tryz.func30, Tryz.ntmps30
  go_wp2
  go_ret
  have hb : Below w.heap.size w (w.alloc (.cells #[(.func (.func K) #[] cap)] 51)) := (Below.refl _ _).alloc (Nat.le_refl _) _
  exact ⟨_, rfl, after1_i S hS ex hrow w.heap.size (.func (.func K) #[] cap) f _ (Blk.new _ _ _) (fun h => Nat.lt_irrefl _ (hex _ h)) (HG.out.kx (Kx.below hb)), hb⟩
theorem when_i (S : Stt σ) (hS : Steady S) (ex : Nat → Prop) (gv av : Value) (f : Int → Bool) (A : (Int → σ → Int × σ) → Int → σ → Int × σ) (w : World) (hex : ∀ g, ex g → g < w.heap.size) (hg : Pur Tryz.prog ex gv (fun x => .bool (f x)) w) (hA : Arnd Tryz.prog S intL intL ex av A w) :
    Calls Tryz.prog 86 #[gv, av] w fun e w' => ∃ r, e = .returned r ∧ Arnd Tryz.prog S intL intL ex r (fun F x s => if f x then A F x s else F x s) w' ∧ Below w.heap.size w w' := by
  have HG := Lib.hid hg
  have HA := Lib.hid hA
  obtain ⟨K, cap, rfl, _⟩ := hg
  obtain ⟨K2, f2, cap2, rfl, _⟩ := hA
  go_enter Tryz.func86, Tryz.ntmps86
  go_wp2
  go_ret
  have hb : Below w.heap.size w ((w.alloc (.cells #[(.func (.func K) #[] cap)] 56)).alloc (.cells #[(.func (.func K2) f2 cap2)] 54)) := ((Below.refl _ _).alloc (Nat.le_refl _) _).alloc (by simp) _
  have hn := Blk.new (w.alloc (.cells #[(.func (.func K) #[] cap)] 56)) 54 #[(.func (.func K2) f2 cap2)]
  rw [show (w.alloc (.cells #[(.func (.func K) #[] cap)] 56)).heap.size = w.heap.size + 1 by simp] at hn
  exact ⟨_, rfl, when1_i S hS ex w.heap.size (w.heap.size + 1) (.func (.func K) #[] cap) (.func (.func K2) f2 cap2) f A _ ((Blk.new _ _ _).alloc _) (fun h => Nat.lt_irrefl _ (hex _ h)) hn (fun h => by have := hex _ h; omega) (HG.out.kx (Kx.below hb)) (HA.out.kx (Kx.below hb)), hb⟩
theorem times_i (S : Stt σ) (hS : Steady S) (ex : Nat → Prop) (hrow : ∀ g, S.row = some g → ex g) (n : Int) (gv : Value) (f : Int → Bool) (w : World) (hex : ∀ g, ex g → g < w.heap.size) (hg : Pur Tryz.prog ex gv (fun x => .bool (f x)) w) :
    Calls Tryz.prog 21 #[.int .i64 n, gv] w fun e w' => ∃ r, e = .returned r ∧ Arnd Tryz.prog S intL intL ex r (fun F x s => timesF f F x ((min n 100).toNat - 1) (F x s)) w' ∧ Below w.heap.size w w' := by
  have HG := Lib.hid hg
  obtain ⟨K, cap, rfl, _⟩ := hg
  go_enter Tryz.func21, Tryz.ntmps21
  go_wp2
  go_ret
  have hb : Below w.heap.size w ((w.alloc (.cells #[.int .i64 n] 3)).alloc (.cells #[(.func (.func K) #[] cap)] 56)) := ((Below.refl _ _).alloc (Nat.le_refl _) _).alloc (by simp) _
  have hn := Blk.new (w.alloc (.cells #[.int .i64 n] 3)) 56 #[(.func (.func K) #[] cap)]
  rw [show (w.alloc (.cells #[.int .i64 n] 3)).heap.size = w.heap.size + 1 by simp] at hn
  exact ⟨_, rfl, times1_i S hS ex hrow w.heap.size (w.heap.size + 1) (.func (.func K) #[] cap) n f _ ((Blk.new _ _ _).alloc _) (fun h => Nat.lt_irrefl _ (hex _ h)) hn (fun h => by have := hex _ h; omega) (HG.out.kx (Kx.below hb)), hb⟩
/-- What an interceptor of numbers does. -/
def oneF (o : Int × Int) (F : Int → σ → Int × σ) (x : Int) (s : σ) : Int × σ :=
  if o.1 = 1 then F (xr x o.2) s
  else if o.1 = 2 then (xr (wrap64 ((F x s).1 * 3)) o.2, (F x s).2)
  else if o.1 = 3 then if odd x then (xr (wrap64 ((F x s).1 * 5)) o.2, (F x s).2) else F x s
  else timesF odd F x ((min o.2 100).toNat - 1) (F x s)
end Go.Proofs.YthokfopeddaiiaaGreatDoor
