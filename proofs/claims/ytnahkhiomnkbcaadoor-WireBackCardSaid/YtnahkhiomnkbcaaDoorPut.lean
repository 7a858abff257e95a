/-
  Contracts: wire.Put: a record written behind bytes.
-/
import Derived.Test.YtnahkhiomnkbcaaDoorFix
import Derived.Deep.RegionLaw
namespace Go.Own
/-- append that may grow, in a region that draws its order. -/
theorem step_app_any {P : Program} (w : World) {ops : Array Oper} {o : Oper} {a : Act} {K : Act → World → Prop} {Q : Exit → Act → World → Prop} {E : Prop} {t e : TypeId} (hP : ByteP P t e) (hgd : o.guard = none) (s x : Operand) (ho : o.op = .call { callee := .builtin .append, args := #[s, x], argTypes := #[t, t] })
    (base : Nat) (v : Value) (n : Nat) (xs : List UInt8) (hs : a.eval s = v) (hown : Ow w base e v n xs)
    (B : Nat) (A : Option Addr) (m c : Nat) (l : List UInt8) (hx : a.eval x = .slice A m c) (hr : Rd w B A m l) (hb : n + m ≤ 140737488355328) (hbase : base ≤ w.heap.size)
    (h : ∀ A' cap' w', Ow w' base e (.slice A' (n + m) cap') (n + m) (xs ++ l) → w.grownBy w' v.ownBlock → K (a.put o.dst (.slice A' (n + m) cap')) w') :
    if Region.wanted o (yielded ops a.tmps) = true then Oper.wp P o a w K Q else E := by
  have hw : Region.wanted o (yielded ops a.tmps) = true := by simp [Region.wanted, hgd]
  rw [if_pos hw]
  obtain ⟨v', w', hrun, r1, r2, r3⟩ := run_app_any (P := P) w hP o.type base v n xs hown B A m c l hr hb hbase
  obtain ⟨A', cap', rfl, h1, h2, _⟩ := r1.form
  unfold Oper.wp execOp
  simp only [ho, resolve, invoke, builtin, Sem.run_bind, Sem.run_pure, Result.andThen_ok, List.map_toArray, List.map_cons, List.map_nil, hs, hx, hrun]
  exact h A' cap' w' r1 r2
end Go.Own
namespace Go.Proofs.YtnahkhiomnkbcaaDoor
open Go.RowKit Go.Own Go.Own.Wire

/-- The bytes of a record whose tag there is. -/
def putE (f k u : Nat) (b : List UInt8) : Except Nat (List UInt8) :=
  if k = 4 then .error 104
  else if k = 0 then .ok (venc (f * 8 + k) ++ venc u)
  else if k = 1 then .ok (venc (f * 8 + k) ++ fixE 8 u)
  else if k = 5 then .ok (venc (f * 8 + k) ++ fixE 4 u)
  else if k = 2 then .ok (venc (f * 8 + k) ++ venc b.length ++ b)
  else match next (venc (f * 8 + k) ++ b ++ venc (f * 8 + k + 1)) with
    | .ok (_, n) => if n = (venc (f * 8 + k) ++ b ++ venc (f * 8 + k + 1)).length then .ok (venc (f * 8 + k) ++ b ++ venc (f * 8 + k + 1)) else .error 104
    | .error _ => .error 104

/-- What Put answers. -/
def PutPost (ea : Nat → Addr) (w : World) (lb : List UInt8) (res : Except Nat (List UInt8)) (e : Ending) (w' : World) : Prop :=
  Below w.heap.size w w' ∧ match res with
  | .error k => e = .returned (.tuple #[.slice none 0 0, .iface 88 (.pointer (some (ea k)))])
  | .ok p => ∃ A c, e = .returned (.tuple #[.slice A (lb.length + p.length) c, .nilIface]) ∧ Ow w' w.heap.size 5 (.slice A (lb.length + p.length) c) (lb.length + p.length) (lb ++ p)

set_option maxHeartbeats 400000 in
set_option maxRecDepth 100000 in
theorem put_noTag (A Ab : Option Addr) (n c nb cb u : Nat) (f k : Int) (lb : List UInt8) (w : World) (ea : Nat → Addr) (he : Env w ea) (h : ¬ (1 ≤ f ∧ f ≤ 536870911 ∧ 0 ≤ k ∧ k ≤ 5)) :
    Calls Tryd.prog 18 #[.slice A n c, .agg #[.int .i64 f, .int .i64 k, .int .u64 (u : Int), .slice Ab nb cb]] w (PutPost ea w lb (.error 103)) := by
  have HE := Lib.hid he
  have h8 := he.room
  have HN := Lib.hid h
  clear he h
  go_enter Tryd.func18, Tryd.ntmps18
  go_wp2_with fail
  refine (tag_no f k _ ea (by exact HE.out.below ((Below.refl _ _).alloc (Nat.le_refl _) _) h8) HN.out).mono ?_
  rintro e w1 ⟨rfl, m1, hw1⟩
  have HB1 : Hid (Below w.heap.size w w1) := Lib.hid (hw1 ▸ below_drewN ((Below.refl _ _).alloc (Nat.le_refl _) _) m1)
  clear hw1
  go_wp2
  go_ret2
  exact ⟨HB1.out, rfl⟩

set_option maxHeartbeats 400000 in
set_option maxRecDepth 100000 in
theorem put_end (A Ab : Option Addr) (n c nb cb u f k : Nat) (lb b : List UInt8) (w : World) (ea : Nat → Addr) (he : Env w ea) (h1 : 1 ≤ f) (h2 : f ≤ 536870911) (h3 : k = 4) :
    Calls Tryd.prog 18 #[.slice A n c, .agg #[.int .i64 (f : Int), .int .i64 (k : Int), .int .u64 (u : Int), .slice Ab nb cb]] w (PutPost ea w lb (putE f k u b)) := by
  have h104 := he.group
  have h8 := he.room
  have t4 : ((k : Int) == 4) = true := by simp; omega
  have hk5 : k ≤ 5 := by omega
  have HP : Hid (putE f k u b = .error 104) := Lib.hid (by unfold putE; rw [if_pos h3])
  have h104' : (w.alloc (.cells #[.int .i64 (f : Int), .int .i64 (k : Int), .int .u64 (u : Int), .slice Ab nb cb] 29)).cell? ⟨0, 0, none⟩ = some (.iface 88 (.pointer (some (ea 104)))) := (World.cell?_alloc_lt w _ _ (Nat.lt_of_lt_of_le (by decide) h8)).trans h104
  clear he h3
  go_enter Tryd.func18, Tryd.ntmps18
  go_wp2_with fail
  refine (tag_yes f k _ h1 h2 hk5).mono ?_
  rintro e w1 ⟨rfl, rfl⟩
  go_wp2
  go_region
  go_wp2
  go_ret2
  rw [HP.out]
  exact ⟨((Below.refl _ _).alloc (Nat.le_refl _) _).drew, rfl⟩

set_option maxHeartbeats 400000 in
set_option maxRecDepth 100000 in
theorem put_k0 (A Ab : Option Addr) (n c nb cb u f k : Nat) (lb b : List UInt8) (w : World) (ea : Nat → Addr) (B : Nat) (hr : Rd w B A n lb) (hB : B ≤ w.heap.size) (hn : n ≤ 100000000000) (hu : u < 18446744073709551616) (h1 : 1 ≤ f) (h2 : f ≤ 536870911) (h3 : k = 0) :
    Calls Tryd.prog 18 #[.slice A n c, .agg #[.int .i64 (f : Int), .int .i64 (k : Int), .int .u64 (u : Int), .slice Ab nb cb]] w (PutPost ea w lb (putE f k u b)) := by
  have HR := Lib.hid hr
  have hln := hr.len
  have HLN := Lib.hid hln
  clear hr hln
  have t4 : ((k : Int) == 4) = false := by simp; omega
  have t0 : ((k : Int) == 0) = true := by simp; omega
  have hk5 : k ≤ 5 := by omega
  have HP : Hid (putE f k u b = .ok (venc (f * 8 + k) ++ venc u)) := Lib.hid (by unfold putE; subst h3; rfl)
  have hvl := venc_len (f * 8 + k)
  have htb : f * 8 + k < 18446744073709551616 := by omega
  clear h3
  go_enter Tryd.func18, Tryd.ntmps18
  go_wp2_with fail
  refine (tag_yes f k _ h1 h2 hk5).mono ?_
  rintro e w1 ⟨rfl, rfl⟩
  generalize hT : f * 8 + k = T at *
  have HT := Lib.hid hT; clear hT
  go_wp2_with fail
  refine (varint_any A n c T lb _ w.heap.size (by exact (HR.out.more hB).alloc (Nat.le_refl _) _) (by simp) (by omega) htb).mono ?_
  rintro e w2 ⟨rfl, ho2, hb2⟩
  have hs2 : w.heap.size + 1 ≤ w2.heap.size := by have := hb2.size; simpa using this
  have HB2 := Lib.hid (((Below.refl w.heap.size w).alloc (Nat.le_refl _) (.cells #[.int .i64 (f : Int), .int .i64 (k : Int), .int .u64 (u : Int), .slice Ab nb cb] 29)).trans (hb2.mono (by simp)))
  have hbk := (Blk.new w 29 #[.int .i64 (f : Int), .int .i64 (k : Int), .int .u64 (u : Int), .slice Ab nb cb]).below hb2 (by simp)
  have q1 : w2.cell? ⟨w.heap.size, 1, none⟩ = some (.int .i64 (k : Int)) := hbk.cell 1
  have q2 : w2.cell? ⟨w.heap.size, 2, none⟩ = some (.int .u64 (u : Int)) := hbk.cell 2
  have q3 : w2.cell? ⟨w.heap.size, 3, none⟩ = some (.slice Ab nb cb) := hbk.cell 3
  have HO2 : Hid (Rd w2 w2.heap.size (some ⟨w.heap.size + 1, 0, none⟩) (n + (venc T).length) (lb ++ venc T)) := Lib.hid (by have h := ho2.rd; simpa using h)
  clear ho2 hb2 hbk
  go_wp2_with fail
  refine (varint_any _ _ _ u (lb ++ venc T) _ w2.heap.size (by exact HO2.out) (Nat.le_refl _) (by omega) hu).mono ?_
  rintro e w3 ⟨rfl, ho3, hb3⟩
  have HB3 := Lib.hid (HB2.out.trans (hb3.mono (by omega)))
  have HO3 := Lib.hid ho3
  clear ho3 hb3
  go_wp2
  go_ret2
  rw [HP.out]
  refine ⟨HB3.out, some ⟨w2.heap.size, 0, none⟩, n + (venc T).length + 10, ?_, ?_⟩
  rotate_left
  · have h := HO3.out.base (base' := w.heap.size) (by omega)
    rw [List.append_assoc] at h
    rw [List.length_append, HLN.out, ← Nat.add_assoc]
    exact h
  · rw [List.length_append, HLN.out, ← Nat.add_assoc]
    rfl

set_option maxHeartbeats 400000 in
set_option maxRecDepth 100000 in
theorem put_k1 (A Ab : Option Addr) (n c nb cb u f k : Nat) (lb b : List UInt8) (w : World) (ea : Nat → Addr) (B : Nat) (hr : Rd w B A n lb) (hB : B ≤ w.heap.size) (hn : n ≤ 100000000000) (hu : u < 18446744073709551616) (h1 : 1 ≤ f) (h2 : f ≤ 536870911) (h3 : k = 1) :
    Calls Tryd.prog 18 #[.slice A n c, .agg #[.int .i64 (f : Int), .int .i64 (k : Int), .int .u64 (u : Int), .slice Ab nb cb]] w (PutPost ea w lb (putE f k u b)) := by
  have HR := Lib.hid hr
  have hln := hr.len
  have HLN := Lib.hid hln
  clear hr hln
  have t4 : ((k : Int) == 4) = false := by simp; omega
  have t0 : ((k : Int) == 0) = false := by simp; omega
  have t1 : ((k : Int) == 1) = true := by simp; omega
  have hk5 : k ≤ 5 := by omega
  have HP : Hid (putE f k u b = .ok (venc (f * 8 + k) ++ fixE 8 u)) := Lib.hid (by unfold putE; subst h3; rfl)
  have hvl := venc_len (f * 8 + k)
  have htb : f * 8 + k < 18446744073709551616 := by omega
  clear h3
  go_enter Tryd.func18, Tryd.ntmps18
  go_wp2_with fail
  refine (tag_yes f k _ h1 h2 hk5).mono ?_
  rintro e w1 ⟨rfl, rfl⟩
  generalize hT : f * 8 + k = T at *
  have HT := Lib.hid hT; clear hT
  go_wp2_with fail
  refine (varint_any A n c T lb _ w.heap.size (by exact (HR.out.more hB).alloc (Nat.le_refl _) _) (by simp) (by omega) htb).mono ?_
  rintro e w2 ⟨rfl, ho2, hb2⟩
  have hs2 : w.heap.size + 1 ≤ w2.heap.size := by have := hb2.size; simpa using this
  have HB2 := Lib.hid (((Below.refl w.heap.size w).alloc (Nat.le_refl _) (.cells #[.int .i64 (f : Int), .int .i64 (k : Int), .int .u64 (u : Int), .slice Ab nb cb] 29)).trans (hb2.mono (by simp)))
  have hbk := (Blk.new w 29 #[.int .i64 (f : Int), .int .i64 (k : Int), .int .u64 (u : Int), .slice Ab nb cb]).below hb2 (by simp)
  have q1 : w2.cell? ⟨w.heap.size, 1, none⟩ = some (.int .i64 (k : Int)) := hbk.cell 1
  have q2 : w2.cell? ⟨w.heap.size, 2, none⟩ = some (.int .u64 (u : Int)) := hbk.cell 2
  have q3 : w2.cell? ⟨w.heap.size, 3, none⟩ = some (.slice Ab nb cb) := hbk.cell 3
  have HO2 : Hid (Rd w2 w2.heap.size (some ⟨w.heap.size + 1, 0, none⟩) (n + (venc T).length) (lb ++ venc T)) := Lib.hid (by have h := ho2.rd; simpa using h)
  clear ho2 hb2 hbk
  go_wp2_with fail
  refine (fixed_8 _ _ _ u (lb ++ venc T) _ w2.heap.size (by exact HO2.out) (Nat.le_refl _) (by omega) hu).mono ?_
  rintro e w3 ⟨rfl, ho3, hb3⟩
  have HB3 := Lib.hid (HB2.out.trans (hb3.mono (by omega)))
  have HO3 := Lib.hid ho3
  clear ho3 hb3
  go_wp2
  go_ret2
  rw [HP.out]
  refine ⟨HB3.out, some ⟨w2.heap.size, 0, none⟩, n + (venc T).length + 8, ?_, ?_⟩
  rotate_left
  · have h := HO3.out.base (base' := w.heap.size) (by omega)
    rw [List.append_assoc] at h
    rw [List.length_append, HLN.out, ← Nat.add_assoc, fixE_len]
    exact h
  · rw [List.length_append, HLN.out, ← Nat.add_assoc, fixE_len]
    rfl

set_option maxHeartbeats 400000 in
set_option maxRecDepth 100000 in
theorem put_k5 (A Ab : Option Addr) (n c nb cb u f k : Nat) (lb b : List UInt8) (w : World) (ea : Nat → Addr) (B : Nat) (hr : Rd w B A n lb) (hB : B ≤ w.heap.size) (hn : n ≤ 100000000000) (hu : u < 18446744073709551616) (h1 : 1 ≤ f) (h2 : f ≤ 536870911) (h3 : k = 5) :
    Calls Tryd.prog 18 #[.slice A n c, .agg #[.int .i64 (f : Int), .int .i64 (k : Int), .int .u64 (u : Int), .slice Ab nb cb]] w (PutPost ea w lb (putE f k u b)) := by
  have HR := Lib.hid hr
  have hln := hr.len
  have HLN := Lib.hid hln
  clear hr hln
  have t4 : ((k : Int) == 4) = false := by simp; omega
  have t0 : ((k : Int) == 0) = false := by simp; omega
  have t1 : ((k : Int) == 1) = false := by simp; omega
  have t5 : ((k : Int) == 5) = true := by simp; omega
  have hk5 : k ≤ 5 := by omega
  have HP : Hid (putE f k u b = .ok (venc (f * 8 + k) ++ fixE 4 u)) := Lib.hid (by unfold putE; subst h3; rfl)
  have hvl := venc_len (f * 8 + k)
  have htb : f * 8 + k < 18446744073709551616 := by omega
  clear h3
  go_enter Tryd.func18, Tryd.ntmps18
  go_wp2_with fail
  refine (tag_yes f k _ h1 h2 hk5).mono ?_
  rintro e w1 ⟨rfl, rfl⟩
  generalize hT : f * 8 + k = T at *
  have HT := Lib.hid hT; clear hT
  go_wp2_with fail
  refine (varint_any A n c T lb _ w.heap.size (by exact (HR.out.more hB).alloc (Nat.le_refl _) _) (by simp) (by omega) htb).mono ?_
  rintro e w2 ⟨rfl, ho2, hb2⟩
  have hs2 : w.heap.size + 1 ≤ w2.heap.size := by have := hb2.size; simpa using this
  have HB2 := Lib.hid (((Below.refl w.heap.size w).alloc (Nat.le_refl _) (.cells #[.int .i64 (f : Int), .int .i64 (k : Int), .int .u64 (u : Int), .slice Ab nb cb] 29)).trans (hb2.mono (by simp)))
  have hbk := (Blk.new w 29 #[.int .i64 (f : Int), .int .i64 (k : Int), .int .u64 (u : Int), .slice Ab nb cb]).below hb2 (by simp)
  have q1 : w2.cell? ⟨w.heap.size, 1, none⟩ = some (.int .i64 (k : Int)) := hbk.cell 1
  have q2 : w2.cell? ⟨w.heap.size, 2, none⟩ = some (.int .u64 (u : Int)) := hbk.cell 2
  have q3 : w2.cell? ⟨w.heap.size, 3, none⟩ = some (.slice Ab nb cb) := hbk.cell 3
  have HO2 : Hid (Rd w2 w2.heap.size (some ⟨w.heap.size + 1, 0, none⟩) (n + (venc T).length) (lb ++ venc T)) := Lib.hid (by have h := ho2.rd; simpa using h)
  clear ho2 hb2 hbk
  go_wp2_with fail
  refine (fixed_4 _ _ _ u (lb ++ venc T) _ w2.heap.size (by exact HO2.out) (Nat.le_refl _) (by omega) hu).mono ?_
  rintro e w3 ⟨rfl, ho3, hb3⟩
  have HB3 := Lib.hid (HB2.out.trans (hb3.mono (by omega)))
  have HO3 := Lib.hid ho3
  clear ho3 hb3
  go_wp2
  go_ret2
  rw [HP.out]
  refine ⟨HB3.out, some ⟨w2.heap.size, 0, none⟩, n + (venc T).length + 8, ?_, ?_⟩
  rotate_left
  · have h := HO3.out.base (base' := w.heap.size) (by omega)
    rw [List.append_assoc] at h
    rw [List.length_append, HLN.out, ← Nat.add_assoc, fixE_len]
    exact h
  · rw [List.length_append, HLN.out, ← Nat.add_assoc, fixE_len]
    rfl
set_option maxHeartbeats 400000 in
set_option maxRecDepth 100000 in
theorem put_k2 (A Ab : Option Addr) (n c nb cb u f k : Nat) (lb b : List UInt8) (w : World) (ea : Nat → Addr) (B : Nat) (hr : Rd w B A n lb) (hB : B ≤ w.heap.size) (hn : n ≤ 100000000000) (h1 : 1 ≤ f) (h2 : f ≤ 536870911) (h3 : k = 2) (Bb : Nat) (hrb : Rd w Bb Ab nb b) (hBb : Bb ≤ w.heap.size) (hnb : nb ≤ 100000000000) :
    Calls Tryd.prog 18 #[.slice A n c, .agg #[.int .i64 (f : Int), .int .i64 (k : Int), .int .u64 (u : Int), .slice Ab nb cb]] w (PutPost ea w lb (putE f k u b)) := by
  have HR := Lib.hid hr
  have hln := hr.len
  have HLN := Lib.hid hln
  clear hr hln
  have t4 : ((k : Int) == 4) = false := by simp; omega
  have t0 : ((k : Int) == 0) = false := by simp; omega
  have t1 : ((k : Int) == 1) = false := by simp; omega
  have t5 : ((k : Int) == 5) = false := by simp; omega
  have t2 : ((k : Int) == 2) = true := by simp; omega
  have HRb := Lib.hid hrb
  have hlb := hrb.len
  have HLB := Lib.hid hlb
  clear hrb hlb
  have hk5 : k ≤ 5 := by omega
  have HP : Hid (putE f k u b = .ok (venc (f * 8 + k) ++ venc nb ++ b)) := Lib.hid (by unfold putE; subst h3; rw [HLB.out]; rfl)
  have hvl := venc_len (f * 8 + k)
  have htb : f * 8 + k < 18446744073709551616 := by omega
  clear h3
  go_enter Tryd.func18, Tryd.ntmps18
  go_wp2_with fail
  refine (tag_yes f k _ h1 h2 hk5).mono ?_
  rintro e w1 ⟨rfl, rfl⟩
  generalize hT : f * 8 + k = T at *
  have HT := Lib.hid hT; clear hT
  go_wp2_with fail
  refine (varint_any A n c T lb _ w.heap.size (by exact (HR.out.more hB).alloc (Nat.le_refl _) _) (by simp) (by omega) htb).mono ?_
  rintro e w2 ⟨rfl, ho2, hb2⟩
  have hs2 : w.heap.size + 1 ≤ w2.heap.size := by have := hb2.size; simpa using this
  have HB2 := Lib.hid (((Below.refl w.heap.size w).alloc (Nat.le_refl _) (.cells #[.int .i64 (f : Int), .int .i64 (k : Int), .int .u64 (u : Int), .slice Ab nb cb] 29)).trans (hb2.mono (by simp)))
  have hbk := (Blk.new w 29 #[.int .i64 (f : Int), .int .i64 (k : Int), .int .u64 (u : Int), .slice Ab nb cb]).below hb2 (by simp)
  have q1 : w2.cell? ⟨w.heap.size, 1, none⟩ = some (.int .i64 (k : Int)) := hbk.cell 1
  have q2 : w2.cell? ⟨w.heap.size, 2, none⟩ = some (.int .u64 (u : Int)) := hbk.cell 2
  have q3 : w2.cell? ⟨w.heap.size, 3, none⟩ = some (.slice Ab nb cb) := hbk.cell 3
  have HO2 : Hid (Rd w2 w2.heap.size (some ⟨w.heap.size + 1, 0, none⟩) (n + (venc T).length) (lb ++ venc T)) := Lib.hid (by have h := ho2.rd; simpa using h)
  clear ho2 hb2 hbk
  have hs2' := HB2.out.size
  have HRb2 := Lib.hid ((HRb.out.more hBb).below HB2.out)
  have hvn := venc_len nb
  have hnT : n + (venc T).length ≤ 1000000000000 := by omega
  have hnbb : nb < 18446744073709551616 := by omega
  have hwb : IntKind.u64.wrap (nb : Int) = (nb : Int) := by rw [IntKind.wrap_u64]; omega
  have HVV : Hid (Calls Tryd.prog 16 #[.slice (some ⟨w.heap.size + 1, 0, none⟩) (n + (venc T).length) (n + 10), .int .u64 (nb : Int)] w2.drew fun e w3 => e = .returned (.slice (some ⟨w2.heap.size, 0, none⟩) (n + (venc T).length + (venc nb).length) (n + (venc T).length + 10)) ∧
      Ow w3 w2.heap.size 5 (.slice (some ⟨w2.heap.size, 0, none⟩) (n + (venc T).length + (venc nb).length) (n + (venc T).length + 10)) (n + (venc T).length + (venc nb).length) (lb ++ venc T ++ venc nb) ∧ Below w2.heap.size w2 w3 ∧ w3.cell? ⟨w.heap.size, 3, none⟩ = some (.slice Ab nb cb)) :=
    Lib.hid ((varint_any _ _ _ nb (lb ++ venc T) w2.drew w2.heap.size HO2.out.drew (Nat.le_refl _) hnT hnbb).mono fun e w3 ⟨h1, h2, h3⟩ => ⟨h1, h2, below_of_drew h3, (h3.cell (p := ⟨w.heap.size, 3, none⟩) (by show w.heap.size < w2.heap.size; omega)).trans q3⟩)
  go_wp2_with fail
  go_region_law (first
    | (refine step_app_any _ byteP rfl (.tmp 57) (.tmp 59) rfl w.heap.size (.slice (some ⟨w2.heap.size, 0, none⟩) (n + (venc T).length + (venc nb).length) (n + (venc T).length + 10)) (n + (venc T).length + (venc nb).length) (lb ++ venc T ++ venc nb) rfl (HO3.out.base (by omega)) w.heap.size Ab nb cb b rfl (HRb2.out.below (HB3.out.mono (by omega))) (by omega) (by have := HB3.out.size; omega) ?_; intro A4 c4 w4 ho4 hg4; have HO4 := Lib.hid ho4; have HG4 := Lib.hid hg4; clear ho4 hg4)
    | (go_simp; go_at_call 16; refine HVV.out.mono ?_; rintro e w3 ⟨rfl, ho3, hb3, q3p⟩; have HB3 := Lib.hid hb3; have HO3 := Lib.hid ho3; clear ho3 hb3))
  all_goals
    go_wp2
    go_ret2
    rw [HP.out]
    have hs3 := HB3.out.size
    have HB4 := Lib.hid ((HB2.out.trans (HB3.out.mono hs2')).grown HG4.out (by omega) (fun g hg => by simp [Value.ownBlock] at hg; omega))
    refine ⟨HB4.out, A4, c4, ?_, ?_⟩
    rotate_left
    · have h := HO4.out
      rw [List.append_assoc, List.append_assoc, ← List.append_assoc (venc T)] at h
      rw [List.length_append, List.length_append, HLN.out, HLB.out, ← Nat.add_assoc, ← Nat.add_assoc]
      exact h
    · rw [List.length_append, List.length_append, HLN.out, HLB.out, ← Nat.add_assoc, ← Nat.add_assoc]
      rfl
set_option maxHeartbeats 400000 in
set_option maxRecDepth 100000 in
theorem put_k3 (A Ab : Option Addr) (n c nb cb u f k : Nat) (lb b : List UInt8) (w : World) (ea : Nat → Addr) (B : Nat) (hr : Rd w B A n lb) (hB : B ≤ w.heap.size) (hn : n ≤ 100000000000) (h1 : 1 ≤ f) (h2 : f ≤ 536870911) (he : Env w ea) (h3 : k = 3) (Bb : Nat) (hrb : Rd w Bb Ab nb b) (hBb : Bb ≤ w.heap.size) (hnb : nb ≤ 100000000000) :
    Calls Tryd.prog 18 #[.slice A n c, .agg #[.int .i64 (f : Int), .int .i64 (k : Int), .int .u64 (u : Int), .slice Ab nb cb]] w (PutPost ea w lb (putE f k u b)) := by
  have HR := Lib.hid hr
  have hln := hr.len
  have HLN := Lib.hid hln
  clear hr hln
  have t4 : ((k : Int) == 4) = false := by simp; omega
  have t0 : ((k : Int) == 0) = false := by simp; omega
  have t1 : ((k : Int) == 1) = false := by simp; omega
  have t5 : ((k : Int) == 5) = false := by simp; omega
  have t2 : ((k : Int) == 2) = false := by simp; omega
  have t3 : ((k : Int) == 3) = true := by simp; omega
  have HE := Lib.hid he
  have h8 := he.room
  clear he
  have HRb := Lib.hid hrb
  have hlb := hrb.len
  have HLB := Lib.hid hlb
  clear hrb hlb
  have hk5 : k ≤ 5 := by omega
  have HP : Hid (putE f k u b = match next (venc (f * 8 + k) ++ b ++ venc (f * 8 + k + 1)) with
    | .ok (_, n) => if n = (venc (f * 8 + k) ++ b ++ venc (f * 8 + k + 1)).length then .ok (venc (f * 8 + k) ++ b ++ venc (f * 8 + k + 1)) else .error 104
    | .error _ => .error 104) := Lib.hid (by unfold putE; subst h3; rfl)
  have hvl := venc_len (f * 8 + k)
  have htb : f * 8 + k < 18446744073709551616 := by omega
  have htb1 : f * 8 + k < 4294967296 := by omega
  clear h3
  go_enter Tryd.func18, Tryd.ntmps18
  go_wp2_with fail
  refine (tag_yes f k _ h1 h2 hk5).mono ?_
  rintro e w1 ⟨rfl, rfl⟩
  generalize hT : f * 8 + k = T at *
  have HT := Lib.hid hT; clear hT
  go_wp2_with fail
  refine (varint_any A n c T lb _ w.heap.size (by exact (HR.out.more hB).alloc (Nat.le_refl _) _) (by simp) (by omega) htb).mono ?_
  rintro e w2 ⟨rfl, ho2, hb2⟩
  have hs2 : w.heap.size + 1 ≤ w2.heap.size := by have := hb2.size; simpa using this
  have HB2 := Lib.hid (((Below.refl w.heap.size w).alloc (Nat.le_refl _) (.cells #[.int .i64 (f : Int), .int .i64 (k : Int), .int .u64 (u : Int), .slice Ab nb cb] 29)).trans (hb2.mono (by simp)))
  have hbk := (Blk.new w 29 #[.int .i64 (f : Int), .int .i64 (k : Int), .int .u64 (u : Int), .slice Ab nb cb]).below hb2 (by simp)
  have q1 : w2.cell? ⟨w.heap.size, 1, none⟩ = some (.int .i64 (k : Int)) := hbk.cell 1
  have q2 : w2.cell? ⟨w.heap.size, 2, none⟩ = some (.int .u64 (u : Int)) := hbk.cell 2
  have q3 : w2.cell? ⟨w.heap.size, 3, none⟩ = some (.slice Ab nb cb) := hbk.cell 3
  have HOW : Hid (Ow w2 w.heap.size 5 (.slice (some ⟨w.heap.size + 1, 0, none⟩) (n + (venc T).length) (n + 10)) (n + (venc T).length) (lb ++ venc T)) := Lib.hid (by have h := ho2.base (base' := w.heap.size) (by simp); simpa using h)
  have HO2 : Hid (Rd w2 w2.heap.size (some ⟨w.heap.size + 1, 0, none⟩) (n + (venc T).length) (lb ++ venc T)) := Lib.hid (by have h := ho2.rd; simpa using h)
  clear ho2 hb2 hbk
  have hs2' := HB2.out.size
  have HRb2 := Lib.hid ((HRb.out.more hBb).below HB2.out)
  have hv1 := venc_len (T + 1)
  go_wp2_with (first
    | (at_builtin
       refine wpList_app_any _ byteP rfl (.tmp 63) (.tmp 65) rfl w.heap.size (.slice (some ⟨w.heap.size + 1, 0, none⟩) (n + (venc T).length) (n + 10)) (n + (venc T).length) (lb ++ venc T) rfl HOW.out w.heap.size Ab nb cb b rfl HRb2.out ?_ ?_ ?_
       · omega
       · omega
       intro A3 c3 w3 ho3 hg3 hat3 hc3 hm3
       have HB3 := Lib.hid (HB2.out.grown hg3 hs2' (fun g hg => by simp [Value.ownBlock] at hg; omega))
       have HO3 := Lib.hid ho3
       clear ho3 hg3 hat3 hm3))
  have hs3 := HB3.out.size
  have t1e : ((T : Int) + 1) = ((T + 1 : Nat) : Int) := by omega
  rw [t1e]
  clear t1e
  have hT1 : T + 1 < 18446744073709551616 := by omega
  generalize hL3 : n + (venc T).length + nb = L3 at *
  have hL3b : L3 ≤ 300000000000 := by omega
  have hnL3 : n ≤ L3 := by omega
  have HL3 := Lib.hid hL3; clear hL3
  refine (varint_any A3 L3 c3 (T + 1) (lb ++ venc T ++ b) _ w3.heap.size (by exact HO3.out.rd) (Nat.le_refl _) (by omega) hT1).mono ?_
  rintro e w4 ⟨rfl, ho4, hb4⟩
  have HO4 := Lib.hid (ho4.base (base' := w.heap.size) hs3)
  have HB4 := Lib.hid (HB3.out.trans (hb4.mono hs3))
  have hs4 := HB4.out.size
  have hs34 := hb4.size
  clear ho4 hb4
  obtain ⟨A5, hA5, hsl⟩ := cut_from (c := L3 + 10) byteP HO4.out.rd (n : Int) (k := n) rfl (by omega) (by omega)
  have hA5' : Rd w4 w4.heap.size A5 (L3 + (venc (T + 1)).length - n) (venc T ++ b ++ venc (T + 1)) := by
    have hdd : (lb ++ venc T ++ b ++ venc (T + 1)).drop n = venc T ++ b ++ venc (T + 1) := by
      rw [List.append_assoc, List.append_assoc, List.drop_left' HLN.out, ← List.append_assoc]
    rw [hdd] at hA5; exact hA5
  have HA5 := Lib.hid hA5'; clear hA5 hA5'
  have HLL : Hid (L3 + (venc (T + 1)).length - n = (venc T ++ b ++ venc (T + 1)).length) := Lib.hid HA5.out.len.symm
  have hn5 : L3 + (venc (T + 1)).length - n ≤ 1000000000000 := by omega
  have hc5 : L3 + (venc (T + 1)).length - n ≤ L3 + 10 - n := by omega
  rcases hx : next (venc T ++ b ++ venc (T + 1)) with er | ⟨r, m⟩
  · have HX := Lib.hid hx; clear hx
    go_wp2_with fail
    refine (next_any _ _ _ (venc T ++ b ++ venc (T + 1)) _ ea w4.heap.size (by exact HE.out.below HB4.out h8) (by exact HA5.out) hn5 hc5 (Nat.le_refl _)).mono ?_
    rw [HX.out]
    rintro e w5 ⟨rfl, hb5⟩
    have HB5 := Lib.hid (HB4.out.trans (hb5.mono hs4)); clear hb5
    have hs5 := HB5.out.size
    have h104 := ((HE.out.below HB5.out h8)).group
    have h104' : (w5.alloc (.cells #[.int .i64 0, .int .i64 0, .int .u64 0, .slice none 0 0] 29)).cell? ⟨0, 0, none⟩ = some (.iface 88 (.pointer (some (ea 104)))) := (World.cell?_alloc_lt w5 _ _ (Nat.lt_of_lt_of_le (by decide) (Nat.le_trans h8 hs5))).trans h104
    simp only [recCells]
    go_wp2
    go_region
    go_wp2
    go_ret2
    rw [HP.out, HX.out]
    exact ⟨(HB5.out.alloc hs5 _).drew, rfl⟩
  · have HX := Lib.hid hx; clear hx
    by_cases hm : m = L3 + (venc (T + 1)).length - n
    · have HM := Lib.hid hm
      have tm : ((m : Int) != (L3 : Int) + ((venc (T + 1)).length : Int) - (n : Int)) = false := by simp; omega
      clear hm
      go_wp2_with fail
      refine (next_any _ _ _ (venc T ++ b ++ venc (T + 1)) _ ea w4.heap.size (by exact HE.out.below HB4.out h8) (by exact HA5.out) hn5 hc5 (Nat.le_refl _)).mono ?_
      rw [HX.out]
      rintro e w5 ⟨v5, rfl, ho5, hb5⟩
      have HB5 := Lib.hid (HB4.out.trans (hb5.mono hs4))
      have HO5 := Lib.hid (HO4.out.below hb5 (fun g hg => (HO4.out.lt hg).1))
      obtain ⟨Av, cv, hv, _, _, _⟩ := ho5.form
      subst hv
      clear hb5 ho5
      have hs5 := HB5.out.size
      simp only [recCells]
      go_wp2
      go_ret2
      rw [HP.out, HX.out]
      simp only
      rw [if_pos (by rw [HM.out, HLL.out])]
      refine ⟨HB5.out.alloc hs5 _, some ⟨w3.heap.size, 0, none⟩, L3 + 10, ?_, ?_⟩
      rotate_left
      · have h := HO5.out.alloc (.cells #[.int .i64 (r.field : Int), .int .i64 (r.kind : Int), .int .u64 (r.u : Int), .slice Av r.b.length cv] 29)
        rw [List.append_assoc, List.append_assoc, ← List.append_assoc (venc T)] at h
        rw [← HLL.out, HLN.out, show n + (L3 + (venc (T + 1)).length - n) = L3 + (venc (T + 1)).length by omega]
        exact h
      · rw [← HLL.out, HLN.out, show n + (L3 + (venc (T + 1)).length - n) = L3 + (venc (T + 1)).length by omega]
        rfl
    · have HM := Lib.hid hm
      have tm : ((m : Int) != (L3 : Int) + ((venc (T + 1)).length : Int) - (n : Int)) = true := by simp; omega
      clear hm
      go_wp2_with fail
      refine (next_any _ _ _ (venc T ++ b ++ venc (T + 1)) _ ea w4.heap.size (by exact HE.out.below HB4.out h8) (by exact HA5.out) hn5 hc5 (Nat.le_refl _)).mono ?_
      rw [HX.out]
      rintro e w5 ⟨v5, rfl, ho5, hb5⟩
      have HB5 := Lib.hid (HB4.out.trans (hb5.mono hs4))
      obtain ⟨Av, cv, hv, _, _, _⟩ := ho5.form
      subst hv
      clear hb5 ho5
      have hs5 := HB5.out.size
      have h104 := ((HE.out.below HB5.out h8)).group
      have h104' : (w5.alloc (.cells #[.int .i64 (r.field : Int), .int .i64 (r.kind : Int), .int .u64 (r.u : Int), .slice Av r.b.length cv] 29)).cell? ⟨0, 0, none⟩ = some (.iface 88 (.pointer (some (ea 104)))) := (World.cell?_alloc_lt w5 _ _ (Nat.lt_of_lt_of_le (by decide) (Nat.le_trans h8 hs5))).trans h104
      simp only [recCells]
      go_wp2
      go_region
      go_wp2
      go_ret2
      rw [HP.out, HX.out]
      simp only
      rw [if_neg (by rw [← HLL.out]; exact HM.out)]
      exact ⟨(HB5.out.alloc hs5 _).drew, rfl⟩

/-- The bytes of a record, or why there are none. -/
def putR (f k : Int) (u : Nat) (b : List UInt8) : Except Nat (List UInt8) :=
  if 1 ≤ f ∧ f ≤ 536870911 ∧ 0 ≤ k ∧ k ≤ 5 then putE f.toNat k.toNat u b else .error 103

theorem put_any (A Ab : Option Addr) (n c nb cb u : Nat) (f k : Int) (lb b : List UInt8) (w : World) (ea : Nat → Addr) (B Bb : Nat) (he : Env w ea) (hr : Rd w B A n lb) (hB : B ≤ w.heap.size) (hn : n ≤ 100000000000) (hu : u < 18446744073709551616)
    (hrb : Rd w Bb Ab nb b) (hBb : Bb ≤ w.heap.size) (hnb : nb ≤ 100000000000) :
    Calls Tryd.prog 18 #[.slice A n c, .agg #[.int .i64 f, .int .i64 k, .int .u64 (u : Int), .slice Ab nb cb]] w (PutPost ea w lb (putR f k u b)) := by
  unfold putR
  by_cases h : 1 ≤ f ∧ f ≤ 536870911 ∧ 0 ≤ k ∧ k ≤ 5
  · rw [if_pos h]
    obtain ⟨f', rfl⟩ := Int.eq_ofNat_of_zero_le (show 0 ≤ f by omega)
    obtain ⟨k', rfl⟩ := Int.eq_ofNat_of_zero_le (show 0 ≤ k by omega)
    simp only [Int.toNat_natCast]
    have h1 : 1 ≤ f' := by omega
    have h2 : f' ≤ 536870911 := by omega
    rcases (show k' = 0 ∨ k' = 1 ∨ k' = 2 ∨ k' = 3 ∨ k' = 4 ∨ k' = 5 by omega) with h3 | h3 | h3 | h3 | h3 | h3
    · exact put_k0 A Ab n c nb cb u f' k' lb b w ea B hr hB hn hu h1 h2 h3
    · exact put_k1 A Ab n c nb cb u f' k' lb b w ea B hr hB hn hu h1 h2 h3
    · exact put_k2 A Ab n c nb cb u f' k' lb b w ea B hr hB hn h1 h2 h3 Bb hrb hBb hnb
    · exact put_k3 A Ab n c nb cb u f' k' lb b w ea B hr hB hn h1 h2 he h3 Bb hrb hBb hnb
    · exact put_end A Ab n c nb cb u f' k' lb b w ea he h1 h2 h3
    · exact put_k5 A Ab n c nb cb u f' k' lb b w ea B hr hB hn hu h1 h2 h3
  · rw [if_neg h]
    exact put_noTag A Ab n c nb cb u f k lb w ea he h
end Go.Proofs.YtnahkhiomnkbcaaDoor
