/-
  Contracts: hpack.Size of a list that is read; conn's bound on lists.
  Contract: (*Conn).Open of a list of headers that stand in the table, at a client.
  The states of a client that opens streams, one behind the other. No program text is walked here.
  Zero bytes, made. No program.
  Contract: parleylaw8.post: a request's list, in new memory.
-/
import Derived.Test.YtkpppjhbmnfmkaaGreatDoorJy
import Derived.Test.YtkpppjhbmnfmkaaGreatDoorJo
import Derived.Test.YtkpppjhbmnfmkaaGreatDoorJp
import Derived.Test.YtkpppjhbmnfmkaaGreatDoorJn
import Derived.Test.YtkpppjhbmnfmkaaGreatDoorJw
import Derived.Test.YtkpppjhbmnfmkaaGreatDoorJt
import Derived.Deep.OwnRows
import Derived.Test.YtkpppjhbmnfmkaaGreatDoorJu
set_option linter.unusedSimpArgs false
set_option linter.unusedVariables false
section
namespace Go.Proofs.YtkpppjhbmnfmkaaGreatDoor
open Go.RowKit Go.Own Go.Own.Im Go.Own.Cx Go.Own.Fr Go.Own.Hd
theorem hszs_take (hs : List HdrV) {j : Nat} {x : HdrV} (hx : hs[j]? = some x) : hszs (hs.take (j + 1)) = hszs (hs.take j) + hsz x := by
  rw [List.take_add_one, hx]
  simp [hszs]
theorem hszs_le (hs : List HdrV) (h : ∀ x ∈ hs, x.name.size ≤ 1000000 ∧ x.value.size ≤ 1000000) : ∀ n, hszs (hs.take n) ≤ 3000000 * n
  | 0 => by simp [hszs]
  | n + 1 => by
    have ih := hszs_le hs h n
    cases hx : hs[n]? with
    | none =>
      rw [show hs.take (n + 1) = hs.take n by rw [List.take_add_one, hx]; simp]
      omega
    | some x =>
      rw [hszs_take hs hx]
      have := h x (List.mem_of_getElem? hx)
      unfold hsz
      omega
/-- Between two rounds of Size. -/
def SzR (w : World) (hs : List HdrV) (nv iv : Value) (wr : World) : Prop := ∃ j : Nat, nv = .int .i64 (hszs (hs.take j) : Nat) ∧ iv = .int .i64 (j : Nat) ∧ j ≤ hs.length ∧ Below w.heap.size w wr
set_option maxHeartbeats 4000000 in
set_option maxRecDepth 100000 in
theorem sizeL_any (w : World) (A : Option Addr) (c : Nat) (hs : List HdrV) (hr : Cm.RS hdrC 3 w w.heap.size A hs.length hs) (hn : hs.length ≤ 1000) (hz : ∀ x ∈ hs, x.name.size ≤ 1000000 ∧ x.value.size ≤ 1000000) :
    Calls Tryz.prog 94 #[.slice A hs.length c] w fun e w' => e = .returned (.int .i64 (hszs hs : Nat)) ∧ Below w.heap.size w w' := by
  have HR := Lib.hid hr
  have HH := Lib.hid (show _ ∧ _ from ⟨hn, hz⟩)
  have HL := Lib.hid (hszs_le hs hz)
  generalize hN : hs.length = n at *
  have HN := Lib.hid hN
  clear hr hn hz hN
  go_enter Tryz.func94, Tryz.ntmps94
  go_upto_region 3 with fail
  go_loopw [3, 8] (fun nv iv wr => Hid (SzR w hs nv iv wr)) (fun _ iv _ => n - (intOf iv).toNat)
  case atStart => exact ⟨0, rfl, rfl, Nat.zero_le _, Below.refl _ _⟩
  case round =>
    obtain ⟨j, rfl, rfl, hjn, hb⟩ := hrel
    rw [HN.out] at hjn
    have HB := Lib.hid hb
    have HJ := Lib.hid hjn
    by_cases hlt : j < n
    · have hlt2 : (j : Int) < (n : Int) := by omega
      obtain ⟨x, hx⟩ : ∃ x, hs[j]? = some x := ⟨_, List.getElem?_eq_getElem (by rw [HN.out]; exact hlt)⟩
      have hH := hr_of (HN.out.symm ▸ HR.out.below hb)
      obtain ⟨ad, rfl, a0, a1, a2⟩ := hH.at_ (k := j) (by rw [HN.out]; omega)
      have hgd : hs.getD j ⟨⟨#[]⟩, ⟨#[]⟩, false⟩ = x := by rw [List.getD, hx]; rfl
      rw [hgd] at a0 a1 a2
      have hxz := HH.out.2 x (List.mem_of_getElem? hx)
      have HSz := Lib.hid (fun W => hsize_any x.name x.value x.never W hxz.1 hxz.2)
      have HX := Lib.hid hx
      have HXz := Lib.hid hxz
      have i0 : (0 : Int) ≤ (j : Int) := by omega
      have hle := HL.out j
      have hj1000 : j ≤ 1000 := by have := HH.out.1; omega
      have htk := hszs_take hs hx
      have hsl : hsz x ≤ 2000032 := by unfold hsz; omega
      obtain ⟨xn, xv, xb⟩ := x
      simp only at a0 a1 a2 hxz HSz
      have HX := Lib.hid (Blk.new wr 63 #[.string xn, .string xv, .bool xb])
      have HBx := Lib.hid (HB.out.alloc HB.out.size (.cells #[.string xn, .string xv, .bool xb] 63))
      obtain ⟨sz, hsz0⟩ : ∃ sz, xn.size + xv.size + 32 = sz := ⟨_, rfl⟩
      rw [show hsz ⟨xn, xv, xb⟩ = sz from hsz0] at htk hsl
      rw [hsz0] at HSz
      have HTk := Lib.hid htk
      generalize hszs (hs.take j) = nj at *
      have ew : wrap64 ((nj : Int) + (sz : Int)) = ((nj + sz : Nat) : Int) := by unfold wrap64; omega
      have ew2 : IntKind.i64.wrap ((nj : Int) + (sz : Int)) = ((nj + sz : Nat) : Int) := by rw [IntKind.wrap_i64]; omega
      clear hb hjn hx hxz hH hgd hsz0 htk hsl hle hj1000
      go_upto_region 5 with fail
      clear a0 a1 a2
      generalize wr.alloc (.cells #[.string xn, .string xv, .bool xb] 63) = W1 at *
      have x0 : W1.cell? ⟨wr.heap.size, 0, none⟩ = some (.string xn) := HX.out.cell 0
      have x1 : W1.cell? ⟨wr.heap.size, 1, none⟩ = some (.string xv) := HX.out.cell 1
      have x2 : W1.cell? ⟨wr.heap.size, 2, none⟩ = some (.bool xb) := HX.out.cell 2
      go_wp2_with (first
        | (go_at_call 135
           refine Calls.mono (HSz.out _) ?_
           rintro e w2 ⟨rfl, rfl⟩)
        | fail)
      have ej : wrap64 ((j : Int) + 1) = ((j + 1 : Nat) : Int) := by have := HH.out.1; unfold wrap64; omega
      rw [ej]
      refine ⟨⟨j + 1, by rw [HTk.out]; exact congrArg (Value.int .i64) (by omega), rfl, by rw [HN.out]; exact hlt, HBx.out.alloc HBx.out.size _⟩, by simp [intOf]; omega⟩
    · obtain rfl : j = n := by omega
      have hge : ¬ ((j : Int) < (j : Int)) := by omega
      have et : hs.take j = hs := List.take_of_length_le (Nat.le_of_eq HN.out)
      rw [et]
      clear hb hjn et
      go_wp2
      go_ret
      exact ⟨rfl, HB.out⟩
end Go.Proofs.YtkpppjhbmnfmkaaGreatDoor
end

section
namespace Go.Proofs.YtkpppjhbmnfmkaaGreatDoor
open Go.RowKit Go.Own Go.Own.Im Go.Own.Cx Go.Own.Fr Go.Own.Hd
set_option maxHeartbeats 1000000 in
theorem large_no (w : World) (A : Option Addr) (c : Nat) (hs : List HdrV) (hr : Cm.RS hdrC 3 w w.heap.size A hs.length hs) (hn : hs.length ≤ 1000) (hz : ∀ x ∈ hs, x.name.size ≤ 1000000 ∧ x.value.size ≤ 1000000) (hb : hszs hs ≤ 16384) :
    Calls Tryz.prog 58 #[.slice A hs.length c] w fun e w' => e = .returned .nilIface ∧ Below w.heap.size w w' := by
  have HS := Lib.hid (sizeL_any w A c hs hr hn hz)
  have k : ¬ (16384 : Int) < (hszs hs : Int) := by omega
  clear hr hn hz hb
  generalize hszs hs = z at *
  generalize hs.length = n at *
  go_enter Tryz.func58, Tryz.ntmps58
  go_wp2_with fail
  refine HS.out.mono ?_
  rintro e w1 ⟨rfl, hb1⟩
  have HB1 := Lib.hid hb1
  clear hb1
  go_wp2
  go_ret
  exact ⟨rfl, HB1.out⟩
/-- The next stream of a client. -/
def nxt (M : Cv) : Nat := if M.last = 0 then 1 else M.last + 2
/-- A client that has opened a stream. -/
def opcM (M : Cv) (fin : Bool) (ix : List Nat) : Cv :=
  { M with last := nxt M, strs := M.strs ++ [{ id := nxt M, own := if fin then 3 else 1, inw := M.window, outw := M.others }], out := M.out ++ frameB 1 (hfl fin) (nxt M) (ixB ix) }
/-- A list of a caller's. -/
theorem rs_fr {w w' : World} {ow ow' : Nat → Tg} {A : Option Addr} {n : Nat} {hs : List HdrV} (hr : Cm.RS hdrC 3 w w.heap.size A n hs) (hf : Fr w ow w' ow') (hown : ∀ ad, A = some ad → ow ad.block = .no) : Cm.RS hdrC 3 w' w'.heap.size A n hs :=
  (hr.keep hf.size fun ad h1 h2 _ => hf.keep _ h2 (hown ad h1)).more hf.size
section
variable {w : World} {ow : Nat → Tg} {b : Nat} {M : Cv} {L : Lay} {v : Int} {id : Nat}
theorem CN.owns (h : CN w ow b M L) (hv : v = (id : Int)) : CN (w.setCell ⟨b, 14, none⟩ (.int .i64 v)) ow b { M with last := id } L ∧ Fr w ow (w.setCell ⟨b, 14, none⟩ (.int .i64 v)) ow := by
  subst hv
  exact h.last_ id
theorem opens_v (hv : v = (id : Int)) (h : CN w ow b M L) (hnew : ∀ s ∈ M.strs, s.id ≠ id) (hid : id ≤ 2147483647) (h0 : 0 ≤ M.window ∧ M.window ≤ 2147483647) (h1 : 0 ≤ M.others ∧ M.others ≤ 2147483647) (hn : M.strs.length ≤ 1000000) :
    Calls Tryz.prog 59 #[.pointer (some ⟨b, 0, none⟩), .int .i64 v] w fun e w' => e = .returned (.pointer (some ⟨w.heap.size + 2, 0, none⟩)) ∧ ∃ ow' L', CN w' ow' b { M with strs := M.strs ++ [{ id := id, inw := M.window, outw := M.others }] } L' ∧ Fr w ow w' ow' ∧ (L'.s id).sb = w.heap.size + 2 := by
  subst hv
  refine (opens_any w ow b M L id h hnew hid h0 h1 hn).mono ?_
  rintro e w' ⟨he, ow', L', h1, h2, h3, _⟩
  exact ⟨he, ow', L', h1, h2, h3⟩
theorem heads_v (hv : v = (id : Int)) (n c : Nat) (fin : Bool) (A : Option Addr) (hs : List Hd.HdrV) (ix : List Nat) (hl : hs.length = n) (h : CN w ow b M L) (hr : Cm.RS hdrC 3 w w.heap.size A n hs) (hix : Ix8 ix hs) (hnv : ∀ x ∈ hs, x.never = false) (hn : hs.length ≤ 1000) (h0 : id ≠ 0) (hid : id ≤ 2147483647) (ho : M.out.length ≤ 1000000000)
    (hE : Env w ow) : Calls Tryz.prog 60 #[.pointer (some ⟨b, 0, none⟩), .int .i64 v, .slice A n c, .bool fin] w (CPostL w ow b L { M with out := M.out ++ frameB 1 (hfl fin) id (ixB ix) } (.tuple #[])) := by
  subst hv hl
  obtain ⟨_, _, _, he⟩ := hE.env
  obtain ⟨m, hm⟩ := he.top
  exact heads8_any w ow b M L id c fin A hs ix h hr hix hnv hn h0 hid ho m hm
end
theorem fin_opc (M : Cv) (fin : Bool) (ix : List Nat) (nx : Nat) (hnx : nxt M = nx) (hnew : ∀ s ∈ M.strs, s.id ≠ nx) :
    finM { M with last := nx, strs := M.strs ++ [({ id := nx, own := 1, inw := M.window, outw := M.others } : Sv)], out := M.out ++ frameB 1 (hfl fin) nx (ixB ix) } { id := nx, own := 1, inw := M.window, outw := M.others } fin = opcM M fin ix := by
  subst hnx
  unfold finM opcM
  cases fin with
  | false => rfl
  | true =>
    rw [if_pos rfl, if_neg (show ¬ (0 : Nat) = 3 by decide)]
    have e := updS_last (l := M.strs) (s := { id := nxt M, own := 1, inw := M.window, outw := M.others }) (s' := { id := nxt M, own := 3, inw := M.window, outw := M.others }) hnew rfl
    simp only [if_pos rfl]
    rw [e]
    rfl
theorem nxt_pos (M : Cv) : nxt M ≠ 0 := by unfold nxt; split <;> omega
set_option maxHeartbeats 8000000 in
set_option maxRecDepth 100000 in
/-- A client opens a stream. -/
theorem copen_any (w : World) (ow : Nat → Tg) (b : Nat) (M : Cv) (L : Lay) (A : Option Addr) (c : Nat) (hs : List HdrV) (ix : List Nat) (fin : Bool) (hE : Env w ow) (h : CN w ow b M L) (hd : M.dead = false) (hside : M.side = 1) (hgone : M.gone = false) (hbye : M.bye = false)
    (hlim : (M.strs.length : Int) < M.limit) (hid : nxt M ≤ 2147483647) (hnew : ∀ s ∈ M.strs, s.id ≠ nxt M) (hu : (M.strs.map (·.id)).Nodup) (h0 : 0 ≤ M.window ∧ M.window ≤ 2147483647) (h1 : 0 ≤ M.others ∧ M.others ≤ 2147483647) (hn : M.strs.length ≤ 100000) (ho : M.out.length ≤ 1000000000)
    (hr : Cm.RS hdrC 3 w w.heap.size A hs.length hs) (hown : ∀ ad, A = some ad → ow ad.block = .no) (hix : Ix8 ix hs) (hnv : ∀ x ∈ hs, x.never = false) (hlen : hs.length ≤ 100) (hlc : hs.length ≤ c) (hz : ∀ x ∈ hs, x.name.size ≤ 1000000 ∧ x.value.size ≤ 1000000) (hsz : hszs hs ≤ 16384) (hSz : H6.Szs hs) (hop : (openS rules4 hs req0).isSome = true) :
    Calls Tryz.prog 29 #[.pointer (some ⟨b, 0, none⟩), .slice A hs.length c, .bool fin] w (CPost w ow b (opcM M fin ix) (.tuple #[.int .i64 (nxt M : Nat), .nilIface])) := by
  have HE := Lib.hid hE
  have HC := Lib.hid h
  have HR := Lib.hid (fun W owW (hf : Fr w ow W owW) => rs_fr hr hf hown)
  have HH := Lib.hid (show _ ∧ _ ∧ _ ∧ _ ∧ _ ∧ _ ∧ _ from ⟨hid, hnew, hu, h0, h1, hn, ho⟩)
  have HHs := Lib.hid (show _ ∧ _ ∧ _ ∧ _ ∧ _ ∧ _ ∧ _ ∧ _ from ⟨hix, hnv, hlen, hlc, hz, hsz, hSz, hop⟩)
  have HOp := Lib.hid (fun n => (show HeadOk A hs.length c (w.drewN n) from by
    obtain ⟨e1, e2, e3, heh⟩ := (hE.fr (Fr.drewN w ow n)).env
    exact headOk_of heh hlen hlc (rs_fr hr (Fr.drewN w ow n) hown) hSz hop))
  have HLg := Lib.hid (fun W owW (hf : Fr w ow W owW) => large_no W A c hs (rs_fr hr hf hown) (by omega) hz hsz)
  have c19 : w.cell? ⟨b, 19, none⟩ = some (.bool M.dead) := h.blk.cell 19
  have c0 : w.cell? ⟨b, 0, none⟩ = some (.int .i64 (M.side : Nat)) := h.blk.cell 0
  have c18 : w.cell? ⟨b, 18, none⟩ = some (.bool M.gone) := h.blk.cell 18
  have c17 : w.cell? ⟨b, 17, none⟩ = some (.bool M.bye) := h.blk.cell 17
  have c14 : w.cell? ⟨b, 14, none⟩ = some (.int .i64 (M.last : Nat)) := h.blk.cell 14
  have c15 : w.cell? ⟨b, 15, none⟩ = some (.map (some L.mb)) := h.blk.cell 15
  have c12 : w.cell? ⟨b, 12, none⟩ = some (.int .i64 M.limit) := h.blk.cell 12
  rw [hd] at c19
  rw [hside] at c0
  rw [hgone] at c18
  rw [hbye] at c17
  have hlm := fun ty (n : Nat) => (h.drewN n).p.map.len Tryz.underlying74 ty
  simp only [List.length_map] at hlm
  have k1 : ¬ M.limit ≤ (M.strs.length : Int) := by omega
  have hla : M.last ≤ 2147483647 := by unfold nxt at hid; split at hid <;> omega
  obtain ⟨v, hv, kn⟩ : ∃ v : Int, v = (nxt M : Int) ∧ ((M.last = 0 ∧ v = 1) ∨ (((M.last : Int) == 0) = false ∧ wrap64 ((M.last : Int) + 2) = v ∧ IntKind.i64.wrap ((M.last : Int) + 2) = v)) := by
    refine ⟨_, rfl, ?_⟩
    unfold nxt
    by_cases e : M.last = 0
    · exact .inl ⟨e, by rw [if_pos e]; rfl⟩
    · rw [if_neg e, IntKind.wrap_i64]
      exact .inr ⟨by simp; omega, by unfold wrap64; omega, by omega⟩
  have k2 : ¬ (2147483647 : Int) < v := by omega
  have HV := Lib.hid hv
  have HPos := Lib.hid (nxt_pos M)
  clear h hd hside hgone hbye hr hlim hnew hu h0 h1 hown hix hnv hlen hlc hz hsz hSz hop hE hn ho hv hid hla
  generalize hnx : nxt M = nx at *
  generalize hlen : hs.length = n at *
  generalize hnl : M.strs.length = nl at *
  have HNx := Lib.hid hnx
  have HLen := Lib.hid hlen
  have HNl := Lib.hid hnl
  clear hnx hlen hnl
  rcases kn with ⟨ka, rfl⟩ | ⟨ka, kb, kc⟩
  all_goals
    try rw [ka] at c14
    go_enter Tryz.func29, Tryz.ntmps29
    go_upto_region 10 with fail
    go_quiet (fail)
    go_wp2_with (first
      | (go_at_call 57
         refine Calls.mono (HOp.out _) ?_
         rintro e w2 ⟨a1, a2, a3, a4, v, rfl, ⟨A', n', c', rfl⟩, hb2⟩
         have HB2 := Lib.hid (show Below w.heap.size w w2 from (below_drewN (Below.refl _ _) _).trans hb2)
         clear hb2)
      | fail)
    have HB3 := Lib.hid (HB2.out.alloc HB2.out.size (.cells #[.string a1, .string a2, .string a3, .string a4, .slice A' n' c'] 115))
    clear HB2
    generalize w2.alloc (.cells #[.string a1, .string a2, .string a3, .string a4, .slice A' n' c'] 115) = W3 at *
    refine Calls.mono (HLg.out W3 ow (Fr.below HB3.out ow)) ?_
    rintro e w4 ⟨rfl, hb4⟩
    have HB4 := Lib.hid (HB3.out.trans (hb4.mono HB3.out.size))
    have HC4 := Lib.hid (HC.out.below HB4.out)
    have d14 : w4.cell? ⟨b, 14, none⟩ = some (.int .i64 (M.last : Nat)) := HC4.out.blk.cell 14
    have f14 := HC4.out.blk.frozen 14
    have HL4 := Lib.hid (HC4.out.owns HV.out)
    clear hb4 c19 c0 c18 c17 c14 c15 c12 hlm k1 k2
    go_wp2_with fail
    clear d14 f14
    refine Calls.mono (opens_v HV.out HL4.out.1 HH.out.2.1 HH.out.1 HH.out.2.2.2.1 HH.out.2.2.2.2.1 (by show M.strs.length ≤ 1000000; rw [HNl.out]; have := HH.out.2.2.2.2.2.1; omega)) ?_
    rintro e w6 ⟨rfl, ow6, L6, hc6, hf6, hsb⟩
    rw [← hsb]
    have HF6 := Lib.hid (((Fr.below HB4.out ow).trans HL4.out.2).trans hf6)
    have hmem : ({ id := nx, inw := M.window, outw := M.others } : Sv) ∈ M.strs ++ [({ id := nx, inw := M.window, outw := M.others } : Sv)] := by simp
    have hS6 := hc6.p.strs _ hmem
    have s1 : w6.cell? ⟨(L6.s nx).sb, 1, none⟩ = some (.int .i64 0) := hS6.blk.cell 1
    have sf : w6.frozen? ⟨(L6.s nx).sb, 1, none⟩ = false := hS6.blk.frozen 1
    have hk7 := hc6.strcell (s := { id := nx, inw := M.window, outw := M.others }) (s' := { id := nx, own := 1, inw := M.window, outw := M.others }) hmem rfl 1 (.int .i64 1) rfl rfl rfl rfl
    rw [updS_last (s := { id := nx, inw := M.window, outw := M.others }) (s' := { id := nx, own := 1, inw := M.window, outw := M.others }) HH.out.2.1 rfl] at hk7
    have HK7 := Lib.hid hk7
    have HQ := Lib.hid (fun (L8 : Lay) (h8 : L8.s = L6.s) => (show (L8.s nx).sb = (L6.s nx).sb by rw [h8]))
    clear hc6 hf6 hsb hmem hS6 hk7 HL4 HC4
    generalize (L6.s nx).sb = sb at *
    go_wp2_with fail
    clear s1 sf
    generalize w6.setCell ⟨sb, 1, none⟩ (.int .i64 1) = W7 at *
    have HF7 := Lib.hid (HF6.out.trans HK7.out.2)
    refine Calls.mono (heads_v HV.out n c fin A hs ix HLen.out HK7.out.1 (HR.out W7 ow6 HF7.out) HHs.out.1 HHs.out.2.1 (by rw [HLen.out]; have := HHs.out.2.2.1; omega) HPos.out HH.out.1 HH.out.2.2.2.2.2.2 (HE.out.fr HF7.out)) ?_
    rintro e w8 ⟨ow8, L8, rfl, hc8, hf8, hs8⟩
    have hnd : ((M.strs ++ [({ id := nx, own := 1, inw := M.window, outw := M.others } : Sv)]).map (·.id)).Nodup := by
      rw [List.map_append, List.nodup_append]
      refine ⟨HH.out.2.2.1, by simp, fun a ha c hc => ?_⟩
      obtain ⟨x, hx, rfl⟩ := List.mem_map.1 ha
      obtain rfl : c = nx := by simpa using hc
      exact HH.out.2.1 x hx
    have HFin := finishes_any w8 ow8 b _ L8 { id := nx, own := 1, inw := M.window, outw := M.others } fin hc8 (by simp) rfl HH.out.1 hnd
    rw [show (L8.s ({ id := nx, own := 1, inw := M.window, outw := M.others } : Sv).id).sb = sb from HQ.out L8 hs8, fin_opc M fin ix nx HNx.out HH.out.2.1] at HFin
    have HFin := Lib.hid HFin
    have HF8 := Lib.hid (HF7.out.trans hf8)
    clear hc8 hf8 hs8 hnd
    go_wp2_with fail
    refine HFin.out.mono ?_
    intro e w9 hp
    obtain rfl := hp.ret
    have HP := Lib.hid hp
    clear hp
    go_wp2
    go_ret2
    obtain ⟨ow9, L9, _, hc9, hf9⟩ := HP.out
    exact ⟨ow9, L9, congrArg (fun x => Ending.returned (.tuple #[.int .i64 x, .nilIface])) HV.out, hc9, HF8.out.trans hf9⟩
end Go.Proofs.YtkpppjhbmnfmkaaGreatDoor
end

section
namespace Go.Proofs.YtkpppjhbmnfmkaaGreatDoor
open Go.RowKit Go.Own Go.Own.Im Go.Own.Cx Go.Own.Fr Go.Own.Hd
def ix3n : List Nat := [3, 6, 4]
theorem ix83 : Ix8 ix3n hs3 := ⟨rfl, rfl, rfl, trivial⟩
theorem hs3_nv : ∀ x ∈ hs3, x.never = false := by
  intro x hx
  simp only [hs3, List.mem_cons, List.not_mem_nil, or_false] at hx
  rcases hx with rfl | rfl | rfl <;> rfl
theorem hs3_sz : ∀ x ∈ hs3, x.name.size ≤ 1000000 ∧ x.value.size ≤ 1000000 := by
  intro x hx
  simp only [hs3, List.mem_cons, List.not_mem_nil, or_false] at hx
  rcases hx with rfl | rfl | rfl <;> exact ⟨by decide, by decide⟩
theorem hs3_hsz : hszs hs3 ≤ 16384 := by decide
/-- A stream that a client opened and may send to. -/
def cS (k : Nat) : Sv := { id := 2 * k + 1, own := 1, inw := 65535, outw := 65535 }
/-- A client that has opened n streams. -/
def clM : Nat → Cv
  | 0 => gM 1 0
  | n + 1 => opcM (clM n) false ix3n
theorem clM_eq : ∀ n, clM n = { gM 1 0 with last := 2 * n - 1, strs := (List.range n).map cS, out := (clM n).out } ∧ (clM n).out.length ≤ 1000 + 12 * n
  | 0 => ⟨rfl, gM_out 1 0⟩
  | n + 1 => by
    obtain ⟨h1, h2⟩ := clM_eq n
    have hx : nxt (clM n) = 2 * n + 1 := by
      unfold nxt
      rw [h1]
      show (if 2 * n - 1 = 0 then 1 else 2 * n - 1 + 2) = _
      by_cases e : n = 0
      · subst e; rfl
      · rw [if_neg (by omega)]; omega
    constructor
    · show opcM (clM n) false ix3n = _
      have e : (opcM (clM n) false ix3n).out = (clM (n + 1)).out := rfl
      rw [← e]
      unfold opcM
      rw [hx]
      have e2 : (clM n).strs ++ [({ id := 2 * n + 1, own := if false = true then 3 else 1, inw := (clM n).window, outw := (clM n).others } : Sv)] = (List.range (n + 1)).map cS := by
        rw [List.range_succ, List.map_append, h1]
        rfl
      rw [e2]
      have e3 : 2 * n + 1 = 2 * (n + 1) - 1 := by omega
      rw [e3]
      conv => lhs; rw [h1]
    · show ((clM n).out ++ _).length ≤ _
      rw [List.length_append, frameB_len]
      simp [ixB, ix3n]
      omega
theorem clM_nxt (n : Nat) : nxt (clM n) = 2 * n + 1 := by
  have h := (clM_eq n).1
  unfold nxt
  rw [h]
  show (if 2 * n - 1 = 0 then 1 else 2 * n - 1 + 2) = _
  by_cases e : n = 0
  · subst e; rfl
  · rw [if_neg (by omega)]; omega
theorem clM_strs (n : Nat) : (clM n).strs = (List.range n).map cS := by rw [(clM_eq n).1]
theorem clM_len (n : Nat) : (clM n).strs.length = n := by rw [clM_strs]; simp
theorem clM_ids (n : Nat) : (clM n).strs.map (·.id) = (List.range n).map fun k => 2 * k + 1 := by
  rw [clM_strs, List.map_map]
  rfl
theorem clM_sorted (n : Nat) : ((clM n).strs.map (·.id)).Pairwise (· < ·) := by
  rw [clM_ids, List.pairwise_map]
  exact List.pairwise_lt_range.imp fun h => by omega
theorem clM_mem (n : Nat) : ∀ s ∈ (clM n).strs, ∃ k, k < n ∧ s = cS k := by
  intro s hs
  rw [clM_strs] at hs
  obtain ⟨k, hk, rfl⟩ := List.mem_map.1 hs
  exact ⟨k, List.mem_range.1 hk, rfl⟩
end Go.Proofs.YtkpppjhbmnfmkaaGreatDoor
end

section
namespace Go.Own.Cm
open Go Go.RowKit Go.Own
theorem Ew.lit_any {α : Type} {k : Nat} (f : α → Array Value) (e : TypeId) (hk : ∀ x, (f x).size = k) (w : World) (l : List α) (hl : l.length ≤ 1000000) : Ew f e k (w.alloc (.cells (flat f l).toArray e)) w.heap.size (.slice (some ⟨w.heap.size, 0, none⟩) l.length l.length) l :=
  World.ownsRow_lit w (flat f l).toArray l.length (Nat.le_refl _) (by simp only [maxLen]; omega) (by rw [List.size_toArray, flat_len hk])
end Go.Own.Cm
namespace Go.Own
open Go.RowKit
theorem madeCells_zero (n : Nat) : madeCells #[.int .u8 0] n = ((List.replicate n (0 : UInt8)).map bv).toArray := by
  apply Array.ext
  · simp [size_madeCells]
  · intro i h1 h2
    simp [madeCells, Nat.mod_one, bv]
theorem Ow.lit_any (w : World) (e : TypeId) (l : List UInt8) (hl : l.length ≤ 1000000) : Ow (w.alloc (.cells (l.map bv).toArray e)) w.heap.size e (.slice (some ⟨w.heap.size, 0, none⟩) l.length l.length) l.length l := by
  have h := Cm.Ew.lit_any (fun b : UInt8 => #[bv b]) e (k := 1) (fun _ => rfl) w l hl
  have e2 : ∀ l : List UInt8, Cm.flat (fun b : UInt8 => #[bv b]) l = l.map bv := by
    intro l
    induction l with
    | nil => rfl
    | cons x l ih => rw [show Cm.flat (fun b : UInt8 => #[bv b]) (x :: l) = bv x :: Cm.flat (fun b : UInt8 => #[bv b]) l from rfl, ih]; rfl
  unfold Cm.Ew at h
  rw [e2] at h
  exact h
/-- make([]byte, n) as one equation. -/
theorem mk_zeros {P : Program} {t e : TypeId} (hP : ByteP P t e) (n : Nat) (hn : n ≤ 1000000) :
    (∀ W : World, (Instr.makeSlice t (.int .i64 (n : Int)) (.int .i64 (n : Int))).run P W = .ok (.slice (some ⟨W.heap.size, 0, none⟩) n n) (W.alloc (.cells ((List.replicate n (0 : UInt8)).map bv).toArray e))) ∧
    ∀ W : World, Ow (W.alloc (.cells ((List.replicate n (0 : UInt8)).map bv).toArray e)) W.heap.size e (.slice (some ⟨W.heap.size, 0, none⟩) n n) n (List.replicate n 0) := by
  obtain ⟨i, hi, hz, h1, h2⟩ := hP.info
  refine ⟨fun W => ?_, fun W => ?_⟩
  · rw [← madeCells_zero]
    exact run_make_row t e i (.int .u8 0) hP.slice hi hz h1 rfl .i64 .i64 n (by rw [h2]; omega) (by omega) W
  · have h := Ow.lit_any W e (List.replicate n 0) (by simpa using hn)
    simpa using h
/-- The same, in the walk's own words. -/
theorem mk_zeros2 {P : Program} {t e : TypeId} (hP : ByteP P t e) (n : Nat) (hn : n ≤ 1000000) :
    (∀ W : World, (Instr.makeSlice t (.int .i64 (n : Int)) (.int .i64 (n : Int))).run P W = .ok (.slice (some ⟨W.heap.size, 0, none⟩) n n) (W.alloc (.cells (Array.replicate n (bv 0)) e))) ∧
    ∀ W : World, Ow (W.alloc (.cells (Array.replicate n (bv 0)) e)) W.heap.size e (.slice (some ⟨W.heap.size, 0, none⟩) n n) n (List.replicate n 0) := by
  have h := mk_zeros hP n hn
  have e2 : ((List.replicate n (0 : UInt8)).map bv).toArray = Array.replicate n (bv 0) := by simp
  rw [e2] at h
  exact h
end Go.Own
end

section
namespace Go.Proofs.YtkpppjhbmnfmkaaGreatDoor
open Go.RowKit Go.Own Go.Own.Im Go.Own.Cx Go.Own.Fr Go.Own.Hd
set_option maxHeartbeats 1000000 in
theorem post_any (w : World) : Calls Tryz.prog 28 #[] w fun e w' => e = .returned (.slice (some ⟨w.heap.size, 0, none⟩) 3 3) ∧ Cm.RS hdrC 3 w' w'.heap.size (some ⟨w.heap.size, 0, none⟩) 3 hs3 ∧ Below w.heap.size w w' := by
  have HB := Lib.hid ((Below.refl w.heap.size w).alloc (Nat.le_refl _) (.cells (Cm.flat hdrC hs3).toArray 63))
  have HE := Lib.hid ((Cm.Ew.lit_any hdrC 63 (k := 3) (fun _ => rfl) w hs3 (by decide)).rs (fun _ => rfl) (by decide))
  rw [show (Cm.flat hdrC hs3).toArray = #[.string ⟨#[58, 109, 101, 116, 104, 111, 100]⟩, .string ⟨#[80, 79, 83, 84]⟩, .bool false, .string ⟨#[58, 115, 99, 104, 101, 109, 101]⟩, .string ⟨#[104, 116, 116, 112]⟩, .bool false, .string ⟨#[58, 112, 97, 116, 104]⟩, .string ⟨#[47]⟩, .bool false] from rfl] at HB HE
  go_enter Tryz.func28, Tryz.ntmps28
  go_wp2
  go_ret
  exact ⟨rfl, HE.out, HB.out⟩
end Go.Proofs.YtkpppjhbmnfmkaaGreatDoor
end
